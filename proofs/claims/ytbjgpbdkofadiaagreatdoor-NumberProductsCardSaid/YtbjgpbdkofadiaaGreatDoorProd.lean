/- The law NumberProducts. -/
import Derived.Test.YtbjgpbdkofadiaaGreatDoorRefS
import Derived.Deep.DrawnRows
namespace Go.Proofs.YtbjgpbdkofadiaaGreatDoor
set_option linter.unusedVariables false
set_option linter.unusedSimpArgs false
open Go.RowKit Go.Shelf Go.Proofs
attribute [local go_sem ↓] Go.wp_at_zero Go.wp_at_succ

theorem mul_bad (S T : ByteArray) (w : World) (ht : Tabs w) (hn : ¬ ((∃ x, NumL S.data.toList x) ∧ ∃ y, NumL T.data.toList y)) : Calls Tryz.prog 19 #[.string S, .string T] w fun e w' => e = .returned (.tuple #[.string ⟨#[]⟩, .int .i64 1]) ∧ Below w.heap.size w w' :=
  (numMul_c S T w ht).mono fun _ _ h => bi_bad h hn
set_option maxRecDepth 100000 in
set_option maxHeartbeats 8000000 in
theorem prod_long (hsan : San) (a b : ByteArray) (n : Int) (w : World) (ht : Tabs w) (sa sb : Bool) (ha : SB3 sa a) (hb : SB3 sb b) (hn : (sa && sb) = false) :
    Calls Tryz.prog 3 #[.string a, .string b, .int .i64 n] w fun e w' => e = .returned (.bool true) ∧ Below w.heap.size w w' := by
  have HT := Lib.hid ht
  have HB : Hid (Below w.heap.size w w) := Below.refl _ _
  have HS : Hid (∀ w : World, Tabs w → Calls Tryz.prog 18 #[] w fun e w' => e = .returned (.bool true) ∧ Below w.heap.size w w') := hsan
  have SA := Lib.hid ha; have SB := Lib.hid hb
  clear ha hb hsan ht
  cases sa
  · clear hn
    go_enter Tryz.func3, Tryz.ntmps3
    go_wp2_with (first
    | (go_at_call 17; (with_reducible refine (short_at a _ _ SA.out).mono ?_); rintro e W ⟨rfl, rfl⟩)
    | (go_at_call 18; (with_reducible refine (HS.out _ (HT.out.below HB.out)).mono ?_); rintro e W ⟨rfl, hbz⟩; have HB := Lib.hid (below_then' HB.out hbz); clear hbz))
    go_ret
    exact ⟨rfl, HB.out⟩
  · obtain rfl : sb = false := by simpa using hn
    clear hn
    go_enter Tryz.func3, Tryz.ntmps3
    go_wp2_with (first
    | (go_at_call 17; (with_reducible refine (short_at a _ _ SA.out).mono ?_); rintro e W ⟨rfl, rfl⟩)
    | (go_at_call 17; (with_reducible refine (short_at b _ _ SB.out).mono ?_); rintro e W ⟨rfl, rfl⟩)
    | (go_at_call 18; (with_reducible refine (HS.out _ (HT.out.below HB.out)).mono ?_); rintro e W ⟨rfl, hbz⟩; have HB := Lib.hid (below_then' HB.out hbz); clear hbz))
    go_ret
    exact ⟨rfl, HB.out⟩

theorem pow_bad (S : ByteArray) (n : Int) (hn2 : n ≤ 9223372036854775807) (w : World) (ht : Tabs w) (hn : ¬ ∃ x, NumL S.data.toList x) : Calls Tryz.prog 20 #[.string S, .int .i64 n] w fun e w' => e = .returned (.tuple #[.string ⟨#[]⟩, .int .i64 1]) ∧ Below w.heap.size w w' :=
  (numPow_c S n hn2 w ht).mono fun _ _ h => un_bad h hn
theorem pow_none (S : ByteArray) (x n : Int) (hn2 : n ≤ 9223372036854775807) (w : World) (ht : Tabs w) (hS : NumL S.data.toList x) (hn : n < 0) : Calls Tryz.prog 20 #[.string S, .int .i64 n] w fun e w' => e = .returned (.tuple #[.string ⟨#[]⟩, .int .i64 5]) ∧ Below w.heap.size w w' :=
  (numPow_c S n hn2 w ht).mono fun _ _ h => by
    have h1 := un_at (f := fun x => powOut x n) h hS
    have h2 : powOut x n = .err 5 := if_pos hn
    simp only [h2] at h1
    exact h1

theorem pow_nat (S : ByteArray) (x : Int) (m : Nat) (s : ByteArray) (k : Int) (w : World) (hS : NumL S.data.toList x) (hn2 : (m : Int) ≤ 9223372036854775807) (hs : txt (x ^ m) = s) (hk : ern (x ^ m) = k) (ht : Tabs w) : Calls Tryz.prog 20 #[.string S, .int .i64 (m : Int)] w (Ans s k w) :=
  law_pow S x (m : Int) s k w hS (by omega) hn2 hs hk ht

set_option maxRecDepth 100000 in
set_option maxHeartbeats 8000000 in
theorem prod_bad (hsan : San) (a b : ByteArray) (n : Int) (w : World) (ht : Tabs w) (vb : Bool) (hn2 : n ≤ 9223372036854775807) (ha : SB3 true a) (hb : SB3 true b) (h1 : VB false a) (h2 : VB vb b) :
    Calls Tryz.prog 3 #[.string a, .string b, .int .i64 n] w fun e w' => e = .returned (.bool true) ∧ Below w.heap.size w w' := by
  have HT := Lib.hid ht
  have HB : Hid (Below w.heap.size w w) := Below.refl _ _
  have HS : Hid (∀ w : World, Tabs w → Calls Tryz.prog 18 #[] w fun e w' => e = .returned (.bool true) ∧ Below w.heap.size w w') := hsan
  have SA := Lib.hid ha; have SB := Lib.hid hb; have VA := Lib.hid h1
  have HN2 := Lib.hid hn2
  have HNA : Hid (¬ ∃ x, NumL a.data.toList x) := fun h => by have e1 := h1.2 h; cases e1
  have HNV : Hid (¬ ((∃ x, NumL a.data.toList x) ∧ ∃ y, NumL b.data.toList y)) := fun h => HNA.out h.1
  clear ha hb h1 h2 hsan ht hn2
  go_enter Tryz.func3, Tryz.ntmps3
  go_wp2_with (first
  | (go_at_call 17; (with_reducible refine (short_at a _ _ SA.out).mono ?_); rintro e W ⟨rfl, rfl⟩)
  | (go_at_call 17; (with_reducible refine (short_at b _ _ SB.out).mono ?_); rintro e W ⟨rfl, rfl⟩)
  | (go_at_call 19; (with_reducible refine (mul_bad a b _ (HT.out.below HB.out) HNV.out).mono ?_); rintro e W ⟨rfl, hbz⟩; have HB := Lib.hid (below_then' HB.out hbz); clear hbz)
  | (go_at_call 20; (with_reducible refine (pow_bad a n HN2.out _ (HT.out.below HB.out) HNA.out).mono ?_); rintro e W ⟨rfl, hbz⟩; have HB := Lib.hid (below_then' HB.out hbz); clear hbz)
  | (go_at_call 21; (with_reducible refine (rvalid_at a _ _ VA.out).mono ?_); rintro e W ⟨rfl, hbz⟩; have HB := Lib.hid (below_then' HB.out hbz); clear hbz)
  | (go_at_call 18; (with_reducible refine (HS.out _ (HT.out.below HB.out)).mono ?_); rintro e W ⟨rfl, hbz⟩; have HB := Lib.hid (below_then' HB.out hbz); clear hbz)
  | (go_at_call 22; (with_reducible refine (refused_c 1 _).mono ?_); rintro e W ⟨rfl, rfl⟩))
  go_ret
  exact ⟨rfl, HB.out⟩

set_option maxRecDepth 100000 in
set_option maxHeartbeats 8000000 in
theorem prod_neg_ok (hsan : San) (a b : ByteArray) (n : Int) (w : World) (ht : Tabs w) (x : Int) (y : Int) (hn : n < 0) (hn2 : n ≤ 9223372036854775807) (ha : SB3 true a) (hb : SB3 true b) (h1 : NumL a.data.toList x) (h2 : NumL b.data.toList y) :
    Calls Tryz.prog 3 #[.string a, .string b, .int .i64 n] w fun e w' => e = .returned (.bool true) ∧ Below w.heap.size w w' := by
  have HT := Lib.hid ht
  have HB : Hid (Below w.heap.size w w) := Below.refl _ _
  have HS : Hid (∀ w : World, Tabs w → Calls Tryz.prog 18 #[] w fun e w' => e = .returned (.bool true) ∧ Below w.heap.size w w') := hsan
  have SA := Lib.hid ha; have SB := Lib.hid hb; have VA : Hid (VB true a) := ⟨fun _ => ⟨x, h1⟩, fun _ => rfl⟩
  have HNA := Lib.hid h1; have HFX := Lib.hid h1.2
  have HLX := Lib.hid (len_fit h1.2)
  have HL1 : Hid ((dg 10 x.natAbs).length ≤ 1000000) := Nat.le_trans HLX.out (by decide)
  have HN2 := Lib.hid hn2
  have VB2 : Hid (VB true b) := ⟨fun _ => ⟨y, h2⟩, fun _ => rfl⟩
  have HNB := Lib.hid h2
  have HL2 : Hid ((dg 10 y.natAbs).length ≤ 1000000) := Nat.le_trans (len_fit h2.2) (by decide)
  have HL3 : Hid ((dg 10 (x * y).natAbs).length ≤ 1000000) := Nat.le_trans (len_prod HLX.out (len_fit h2.2)) (by decide)
  have HN := Lib.hid hn
  clear ha hb h1 h2 hsan ht hn2 hn
  have hnn : n < 0 := HN.out
  obtain ⟨s1, hs1⟩ : ∃ s, txt (x * y) = s := ⟨_, rfl⟩
  obtain ⟨e1, he1⟩ : ∃ e, ern (x * y) = e := ⟨_, rfl⟩
  have H1 := Lib.hid (And.intro hs1 he1)
  have O1 := Lib.hid (he1 ▸ ern_or (x * y))
  clear hs1 he1
  go_enter Tryz.func3, Tryz.ntmps3
  go_upto_region 8 with (first
  | (go_at_call 17; (with_reducible refine (short_at a _ _ SA.out).mono ?_); rintro e W ⟨rfl, rfl⟩)
  | (go_at_call 17; (with_reducible refine (short_at b _ _ SB.out).mono ?_); rintro e W ⟨rfl, rfl⟩)
  | (go_at_call 19; (with_reducible refine (law_mul a b x y s1 e1 _ HNA.out HNB.out H1.out.1 H1.out.2 (HT.out.below HB.out)).mono ?_); rintro e W ⟨rfl, hbz⟩; have HB := Lib.hid (below_then' HB.out hbz); clear hbz)
  | (go_at_call 20; (with_reducible refine (pow_none a x n HN2.out _ (HT.out.below HB.out) HNA.out HN.out).mono ?_); rintro e W ⟨rfl, hbz⟩; have HB := Lib.hid (below_then' HB.out hbz); clear hbz)
  | (go_at_call 21; (with_reducible refine (rvalid_at a _ _ VA.out).mono ?_); rintro e W ⟨rfl, hbz⟩; have HB := Lib.hid (below_then' HB.out hbz); clear hbz)
  | (go_at_call 23; (with_reducible refine (rof_c a x _ HNA.out).mono ?_); rintro e W ⟨u, rfl, hu, hbz⟩; obtain ⟨A1, n1, c1, b1, rfl⟩ := hu.form; have HX := Lib.hid hu; have HB := Lib.hid (below_then' HB.out hbz); clear hu hbz))
  have k0 : Below W.heap.size W (W.alloc (.cells #[.slice A1 n1 c1, .bool b1] 32)) := (Below.refl _ _).alloc (Nat.le_refl _) _
  have hb1 : (W.alloc (.cells #[.slice A1 n1 c1, .bool b1] 32)).heap[W.heap.size]? = some (.cells #[.slice A1 n1 c1, .bool b1] 32 (0, 0)) := heap_alloc_new _ _
  obtain ⟨V, hV⟩ : ∃ V, W.alloc (.cells #[.slice A1 n1 c1, .bool b1] 32) = V := ⟨_, rfl⟩
  rw [hV] at k0 hb1 ⊢
  have HBV := Lib.hid (below_then' HB.out k0)
  have HTV := Lib.hid (HT.out.below HBV.out)
  have HXV := Lib.hid (HX.out.below k0)
  obtain ⟨P1, hP1⟩ : ∃ P1, W.heap.size = P1 := ⟨_, rfl⟩
  rw [hP1] at hb1 ⊢
  have c10 := box0 hb1; have c11 := box1 hb1
  clear k0 hV hP1 hb1 HB HX
  have HBC : Hid (Below V.heap.size V V) := Below.refl _ _
  go_upto_region 16 with (first
  | (go_at_call 22; (with_reducible refine (refused_c 5 _).mono ?_); rintro e W ⟨rfl, rfl⟩)
  | (go_at_call 22; (with_reducible refine (refused_c 3 _).mono ?_); rintro e W ⟨rfl, rfl⟩)
  | (go_at_call 21; (with_reducible refine (rvalid_at b _ _ VB2.out).mono ?_); rintro e W9 ⟨rfl, hbz⟩; have c10 := keep_cell hbz c10; have c11 := keep_cell hbz c11; have HBC := Lib.hid (below_then' HBC.out hbz); clear hbz))
  obtain ⟨V9, hV9, hB9⟩ := name_world HBC.out
  try rw [← hV9]
  rw [← hV9] at c10 c11
  clear hV9
  have HX9 := Lib.hid (HXV.out.below hB9)
  have HB8 := Lib.hid (below_then' HBV.out hB9)
  have HT9 := Lib.hid (HT.out.below HB8.out)
  clear hB9
  have HSS : Hid (∀ w', Below V9.heap.size V9 w' → w'.cell? ⟨P1, 0, none⟩ = some (.slice A1 n1 c1) ∧ w'.cell? ⟨P1, 1, none⟩ = some (.bool b1) ∧ Below V9.heap.size V9 w') := fun w' h => ⟨keep_cell h c10, keep_cell h c11, h⟩
  have hbl := Below.refl V9.heap.size V9
  go_region_held3 (fun w' => w'.cell? ⟨P1, 0, none⟩ = some (.slice A1 n1 c1) ∧ w'.cell? ⟨P1, 1, none⟩ = some (.bool b1) ∧ Below V9.heap.size V9 w')
    ((go_split_ands; (with_reducible refine HSS.out _ ?_); (repeat (first | (with_reducible assumption) | (with_reducible refine below_to ?_ hbz) | (with_reducible refine below_al ?_ _) | (with_reducible refine Below.drew ?_)))))
    (first
    | (go_at_call 18; (with_reducible refine (HS.out _ (HT9.out.below ?_)).mono ?_); (go_split_ands; with_reducible assumption); rintro e W9 ⟨rfl, hbz⟩; go_split_ands; have HB9 := Lib.hid (below_to (show Below V9.heap.size V9 _ by assumption) hbz))
    | (go_at_call 23; (with_reducible refine (rof_c b y _ HNB.out).mono ?_); rintro e W9 ⟨u, rfl, hu, hbz⟩; obtain ⟨A2, n2, c2, b2, rfl⟩ := hu.form; have HU2 := Lib.hid hu; clear hu; go_split_ands; have HB9 := Lib.hid (below_to (show Below V9.heap.size V9 _ by assumption) hbz))
    | (go_at_call 26; (with_reducible refine (product_c (.agg #[.slice A1 n1 c1, .bool b1]) (.agg #[.slice A2 n2 c2, .bool b2]) x y _ (HX9.out.below ?_) (HU2.out.below ?_) HL1.out HL2.out).mono ?_); (go_split_ands; with_reducible assumption); (first | (with_reducible exact Below.refl _ _) | (with_reducible exact (Below.refl _ _).drew) | (with_reducible exact (Below.refl _ _).alloc (Nat.le_refl _) _) | (with_reducible exact ((Below.refl _ _).alloc (Nat.le_refl _) _).drew)); rintro e W9 ⟨u, rfl, hu, hbz⟩; obtain ⟨A3, n3, c3, b3, rfl⟩ := hu.form; have HU3 := Lib.hid hu; clear hu; go_split_ands; have HB9 := Lib.hid (below_to (show Below V9.heap.size V9 _ by assumption) hbz))
    | (go_at_call 25; (with_reducible refine (is_c s1 e1 (.agg #[.slice A3 n3 c3, .bool b3]) (x * y) _ (HU3.out.below ?_) HL3.out H1.out.1 H1.out.2).mono ?_); (first | (with_reducible exact Below.refl _ _) | (with_reducible exact (Below.refl _ _).drew) | (with_reducible exact (Below.refl _ _).alloc (Nat.le_refl _) _) | (with_reducible exact ((Below.refl _ _).alloc (Nat.le_refl _) _).drew)); rintro e W9 ⟨rfl, hbz⟩; go_split_ands; have HB9 := Lib.hid (below_to (show Below V9.heap.size V9 _ by assumption) hbz)))
  go_wp2_with fail
  go_ret
  exact ⟨rfl, below_then' HB8.out HB9.out⟩

set_option maxRecDepth 100000 in
set_option maxHeartbeats 8000000 in
theorem prod_fit_ok (hsan : San) (a b : ByteArray) (n : Int) (w : World) (ht : Tabs w) (x : Int) (y : Int) (m : Nat) (hn : n = (m : Int)) (hf : (x ^ m).natAbs < 10 ^ 200) (hn2 : n ≤ 9223372036854775807) (ha : SB3 true a) (hb : SB3 true b) (h1 : NumL a.data.toList x) (h2 : NumL b.data.toList y) :
    Calls Tryz.prog 3 #[.string a, .string b, .int .i64 n] w fun e w' => e = .returned (.bool true) ∧ Below w.heap.size w w' := by
  have HT := Lib.hid ht
  have HB : Hid (Below w.heap.size w w) := Below.refl _ _
  have HS : Hid (∀ w : World, Tabs w → Calls Tryz.prog 18 #[] w fun e w' => e = .returned (.bool true) ∧ Below w.heap.size w w') := hsan
  have SA := Lib.hid ha; have SB := Lib.hid hb; have VA : Hid (VB true a) := ⟨fun _ => ⟨x, h1⟩, fun _ => rfl⟩
  have HNA := Lib.hid h1; have HFX := Lib.hid h1.2
  have HLX := Lib.hid (len_fit h1.2)
  have HL1 : Hid ((dg 10 x.natAbs).length ≤ 1000000) := Nat.le_trans HLX.out (by decide)
  have HN2 := Lib.hid hn2
  have VB2 : Hid (VB true b) := ⟨fun _ => ⟨y, h2⟩, fun _ => rfl⟩
  have HNB := Lib.hid h2
  have HL2 : Hid ((dg 10 y.natAbs).length ≤ 1000000) := Nat.le_trans (len_fit h2.2) (by decide)
  have HL3 : Hid ((dg 10 (x * y).natAbs).length ≤ 1000000) := Nat.le_trans (len_prod HLX.out (len_fit h2.2)) (by decide)
  subst hn
  have HMB := Lib.hid hn2
  have hm0 : ¬ (m : Int) < 0 := by omega
  have HOK : Hid (decide ((x ^ m).natAbs < 10 ^ 200) = true) := decide_eq_true hf
  have HLP : Hid ((dg 10 (x ^ m).natAbs).length ≤ 1000000) := Nat.le_trans (len_fit hf) (by decide)
  clear ha hb h1 h2 hsan ht hn2 hf
  obtain ⟨s1, hs1⟩ : ∃ s, txt (x * y) = s := ⟨_, rfl⟩
  obtain ⟨e1, he1⟩ : ∃ e, ern (x * y) = e := ⟨_, rfl⟩
  have H1 := Lib.hid (And.intro hs1 he1)
  have O1 := Lib.hid (he1 ▸ ern_or (x * y))
  clear hs1 he1
  obtain ⟨s2, hs2⟩ : ∃ s, txt (x ^ m) = s := ⟨_, rfl⟩
  obtain ⟨e2, he2⟩ : ∃ e, ern (x ^ m) = e := ⟨_, rfl⟩
  have H2 := Lib.hid (And.intro hs2 he2)
  have O2 := Lib.hid (he2 ▸ ern_or (x ^ m))
  clear hs2 he2
  go_enter Tryz.func3, Tryz.ntmps3
  go_upto_region 8 with (first
  | (go_at_call 17; (with_reducible refine (short_at a _ _ SA.out).mono ?_); rintro e W ⟨rfl, rfl⟩)
  | (go_at_call 17; (with_reducible refine (short_at b _ _ SB.out).mono ?_); rintro e W ⟨rfl, rfl⟩)
  | (go_at_call 19; (with_reducible refine (law_mul a b x y s1 e1 _ HNA.out HNB.out H1.out.1 H1.out.2 (HT.out.below HB.out)).mono ?_); rintro e W ⟨rfl, hbz⟩; have HB := Lib.hid (below_then' HB.out hbz); clear hbz)
  | (go_at_call 20; (with_reducible refine (pow_nat a x m s2 e2 _ HNA.out HMB.out H2.out.1 H2.out.2 (HT.out.below HB.out)).mono ?_); rintro e W ⟨rfl, hbz⟩; have HB := Lib.hid (below_then' HB.out hbz); clear hbz)
  | (go_at_call 21; (with_reducible refine (rvalid_at a _ _ VA.out).mono ?_); rintro e W ⟨rfl, hbz⟩; have HB := Lib.hid (below_then' HB.out hbz); clear hbz)
  | (go_at_call 23; (with_reducible refine (rof_c a x _ HNA.out).mono ?_); rintro e W ⟨u, rfl, hu, hbz⟩; obtain ⟨A1, n1, c1, b1, rfl⟩ := hu.form; have HX := Lib.hid hu; have HB := Lib.hid (below_then' HB.out hbz); clear hu hbz))
  have k0 : Below W.heap.size W (W.alloc (.cells #[.slice A1 n1 c1, .bool b1] 32)) := (Below.refl _ _).alloc (Nat.le_refl _) _
  have hb1 : (W.alloc (.cells #[.slice A1 n1 c1, .bool b1] 32)).heap[W.heap.size]? = some (.cells #[.slice A1 n1 c1, .bool b1] 32 (0, 0)) := heap_alloc_new _ _
  obtain ⟨V, hV⟩ : ∃ V, W.alloc (.cells #[.slice A1 n1 c1, .bool b1] 32) = V := ⟨_, rfl⟩
  rw [hV] at k0 hb1 ⊢
  have HBV := Lib.hid (below_then' HB.out k0)
  have HTV := Lib.hid (HT.out.below HBV.out)
  have HXV := Lib.hid (HX.out.below k0)
  obtain ⟨P1, hP1⟩ : ∃ P1, W.heap.size = P1 := ⟨_, rfl⟩
  rw [hP1] at hb1 ⊢
  have c10 := box0 hb1; have c11 := box1 hb1
  clear k0 hV hP1 hb1 HB HX
  go_upto_region 12 with (first
  | (go_at_call 24; (with_reducible refine (rpower_c _ x m _ HXV.out HFX.out HMB.out).mono ?_); rintro e W5 ⟨A5, n5, c5, b5, ok, z, rfl, hu, hz, hok, hbz⟩; rw [HOK.out] at hok; subst hok; have HU := Lib.hid hu; have HZ := Lib.hid hz; have HB5 := Lib.hid hbz; clear hu hz hbz))
  have k0 : Below W5.heap.size W5 (W5.alloc (.cells #[.slice A5 n5 c5, .bool b5] 32)) := (Below.refl _ _).alloc (Nat.le_refl _) _
  have hb1 : (W5.alloc (.cells #[.slice A5 n5 c5, .bool b5] 32)).heap[W5.heap.size]? = some (.cells #[.slice A5 n5 c5, .bool b5] 32 (0, 0)) := heap_alloc_new _ _
  obtain ⟨V3, hV⟩ : ∃ V3, W5.alloc (.cells #[.slice A5 n5 c5, .bool b5] 32) = V3 := ⟨_, rfl⟩
  rw [hV] at k0 hb1 ⊢
  have k1 := below_then' HB5.out k0
  have c10 := keep_cell k1 c10; have c11 := keep_cell k1 c11
  have HXV := Lib.hid (HXV.out.below k1)
  have HBV := Lib.hid (below_then' HBV.out k1)
  have HTV := Lib.hid (HT.out.below HBV.out)
  have HUV := Lib.hid (HU.out.below k0)
  obtain ⟨P5, hP5⟩ : ∃ P5, W5.heap.size = P5 := ⟨_, rfl⟩
  rw [hP5] at hb1 ⊢
  have d0 := box0 hb1; have d1 := box1 hb1
  clear k0 k1 hV hP5 hb1 HB5 HU
  have HSZ : Hid (txt z = s2 ∧ ern z = e2) := by show _ ∧ _; rw [HZ.out (by first | trivial | rfl)]; exact H2.out
  have HLZ : Hid ((dg 10 z.natAbs).length ≤ 1000000) := by show _ ≤ _; rw [HZ.out (by first | trivial | rfl)]; exact HLP.out
  have HBC : Hid (Below V3.heap.size V3 V3) := Below.refl _ _
  go_upto_region 16 with (first
  | (go_at_call 22; (with_reducible refine (refused_c 5 _).mono ?_); rintro e W ⟨rfl, rfl⟩)
  | (go_at_call 22; (with_reducible refine (refused_c 3 _).mono ?_); rintro e W ⟨rfl, rfl⟩)
  | (go_at_call 21; (with_reducible refine (rvalid_at b _ _ VB2.out).mono ?_); rintro e W9 ⟨rfl, hbz⟩; have c10 := keep_cell hbz c10; have c11 := keep_cell hbz c11; have HBC := Lib.hid (below_then' HBC.out hbz); clear hbz)
  | (go_at_call 25; (with_reducible refine (is_c s2 e2 (.agg #[.slice A5 n5 c5, .bool b5]) z _ (HUV.out.below HBC.out) HLZ.out HSZ.out.1 HSZ.out.2).mono ?_); rintro e W9 ⟨rfl, hbz⟩; have c10 := keep_cell hbz c10; have c11 := keep_cell hbz c11; have HBC := Lib.hid (below_then' HBC.out hbz); clear hbz))
  obtain ⟨V9, hV9, hB9⟩ := name_world HBC.out
  try rw [← hV9]
  rw [← hV9] at c10 c11
  clear hV9
  have HX9 := Lib.hid (HXV.out.below hB9)
  have HB8 := Lib.hid (below_then' HBV.out hB9)
  have HT9 := Lib.hid (HT.out.below HB8.out)
  clear hB9
  have HSS : Hid (∀ w', Below V9.heap.size V9 w' → w'.cell? ⟨P1, 0, none⟩ = some (.slice A1 n1 c1) ∧ w'.cell? ⟨P1, 1, none⟩ = some (.bool b1) ∧ Below V9.heap.size V9 w') := fun w' h => ⟨keep_cell h c10, keep_cell h c11, h⟩
  have hbl := Below.refl V9.heap.size V9
  go_region_held3 (fun w' => w'.cell? ⟨P1, 0, none⟩ = some (.slice A1 n1 c1) ∧ w'.cell? ⟨P1, 1, none⟩ = some (.bool b1) ∧ Below V9.heap.size V9 w')
    ((go_split_ands; (with_reducible refine HSS.out _ ?_); (repeat (first | (with_reducible assumption) | (with_reducible refine below_to ?_ hbz) | (with_reducible refine below_al ?_ _) | (with_reducible refine Below.drew ?_)))))
    (first
    | (go_at_call 18; (with_reducible refine (HS.out _ (HT9.out.below ?_)).mono ?_); (go_split_ands; with_reducible assumption); rintro e W9 ⟨rfl, hbz⟩; go_split_ands; have HB9 := Lib.hid (below_to (show Below V9.heap.size V9 _ by assumption) hbz))
    | (go_at_call 23; (with_reducible refine (rof_c b y _ HNB.out).mono ?_); rintro e W9 ⟨u, rfl, hu, hbz⟩; obtain ⟨A2, n2, c2, b2, rfl⟩ := hu.form; have HU2 := Lib.hid hu; clear hu; go_split_ands; have HB9 := Lib.hid (below_to (show Below V9.heap.size V9 _ by assumption) hbz))
    | (go_at_call 26; (with_reducible refine (product_c (.agg #[.slice A1 n1 c1, .bool b1]) (.agg #[.slice A2 n2 c2, .bool b2]) x y _ (HX9.out.below ?_) (HU2.out.below ?_) HL1.out HL2.out).mono ?_); (go_split_ands; with_reducible assumption); (first | (with_reducible exact Below.refl _ _) | (with_reducible exact (Below.refl _ _).drew) | (with_reducible exact (Below.refl _ _).alloc (Nat.le_refl _) _) | (with_reducible exact ((Below.refl _ _).alloc (Nat.le_refl _) _).drew)); rintro e W9 ⟨u, rfl, hu, hbz⟩; obtain ⟨A3, n3, c3, b3, rfl⟩ := hu.form; have HU3 := Lib.hid hu; clear hu; go_split_ands; have HB9 := Lib.hid (below_to (show Below V9.heap.size V9 _ by assumption) hbz))
    | (go_at_call 25; (with_reducible refine (is_c s1 e1 (.agg #[.slice A3 n3 c3, .bool b3]) (x * y) _ (HU3.out.below ?_) HL3.out H1.out.1 H1.out.2).mono ?_); (first | (with_reducible exact Below.refl _ _) | (with_reducible exact (Below.refl _ _).drew) | (with_reducible exact (Below.refl _ _).alloc (Nat.le_refl _) _) | (with_reducible exact ((Below.refl _ _).alloc (Nat.le_refl _) _).drew)); rintro e W9 ⟨rfl, hbz⟩; go_split_ands; have HB9 := Lib.hid (below_to (show Below V9.heap.size V9 _ by assumption) hbz)))
  go_wp2_with fail
  go_ret
  exact ⟨rfl, below_then' HB8.out HB9.out⟩

set_option maxRecDepth 100000 in
set_option maxHeartbeats 8000000 in
theorem prod_big_ok (hsan : San) (a b : ByteArray) (n : Int) (w : World) (ht : Tabs w) (x : Int) (y : Int) (m : Nat) (hn : n = (m : Int)) (hf : ¬ (x ^ m).natAbs < 10 ^ 200) (hn2 : n ≤ 9223372036854775807) (ha : SB3 true a) (hb : SB3 true b) (h1 : NumL a.data.toList x) (h2 : NumL b.data.toList y) :
    Calls Tryz.prog 3 #[.string a, .string b, .int .i64 n] w fun e w' => e = .returned (.bool true) ∧ Below w.heap.size w w' := by
  have HT := Lib.hid ht
  have HB : Hid (Below w.heap.size w w) := Below.refl _ _
  have HS : Hid (∀ w : World, Tabs w → Calls Tryz.prog 18 #[] w fun e w' => e = .returned (.bool true) ∧ Below w.heap.size w w') := hsan
  have SA := Lib.hid ha; have SB := Lib.hid hb; have VA : Hid (VB true a) := ⟨fun _ => ⟨x, h1⟩, fun _ => rfl⟩
  have HNA := Lib.hid h1; have HFX := Lib.hid h1.2
  have HLX := Lib.hid (len_fit h1.2)
  have HL1 : Hid ((dg 10 x.natAbs).length ≤ 1000000) := Nat.le_trans HLX.out (by decide)
  have HN2 := Lib.hid hn2
  have VB2 : Hid (VB true b) := ⟨fun _ => ⟨y, h2⟩, fun _ => rfl⟩
  have HNB := Lib.hid h2
  have HL2 : Hid ((dg 10 y.natAbs).length ≤ 1000000) := Nat.le_trans (len_fit h2.2) (by decide)
  have HL3 : Hid ((dg 10 (x * y).natAbs).length ≤ 1000000) := Nat.le_trans (len_prod HLX.out (len_fit h2.2)) (by decide)
  subst hn
  have HMB := Lib.hid hn2
  have hm0 : ¬ (m : Int) < 0 := by omega
  have HOK : Hid (decide ((x ^ m).natAbs < 10 ^ 200) = false) := decide_eq_false hf
  have HSB : Hid (txt (x ^ m) = ⟨#[]⟩ ∧ ern (x ^ m) = 3) := ⟨by rw [txt, if_neg hf], by rw [ern, if_neg hf]⟩
  clear ha hb h1 h2 hsan ht hn2 hf
  obtain ⟨s1, hs1⟩ : ∃ s, txt (x * y) = s := ⟨_, rfl⟩
  obtain ⟨e1, he1⟩ : ∃ e, ern (x * y) = e := ⟨_, rfl⟩
  have H1 := Lib.hid (And.intro hs1 he1)
  have O1 := Lib.hid (he1 ▸ ern_or (x * y))
  clear hs1 he1
  go_enter Tryz.func3, Tryz.ntmps3
  go_upto_region 8 with (first
  | (go_at_call 17; (with_reducible refine (short_at a _ _ SA.out).mono ?_); rintro e W ⟨rfl, rfl⟩)
  | (go_at_call 17; (with_reducible refine (short_at b _ _ SB.out).mono ?_); rintro e W ⟨rfl, rfl⟩)
  | (go_at_call 19; (with_reducible refine (law_mul a b x y s1 e1 _ HNA.out HNB.out H1.out.1 H1.out.2 (HT.out.below HB.out)).mono ?_); rintro e W ⟨rfl, hbz⟩; have HB := Lib.hid (below_then' HB.out hbz); clear hbz)
  | (go_at_call 20; (with_reducible refine (pow_nat a x m ⟨#[]⟩ 3 _ HNA.out HMB.out HSB.out.1 HSB.out.2 (HT.out.below HB.out)).mono ?_); rintro e W ⟨rfl, hbz⟩; have HB := Lib.hid (below_then' HB.out hbz); clear hbz)
  | (go_at_call 21; (with_reducible refine (rvalid_at a _ _ VA.out).mono ?_); rintro e W ⟨rfl, hbz⟩; have HB := Lib.hid (below_then' HB.out hbz); clear hbz)
  | (go_at_call 23; (with_reducible refine (rof_c a x _ HNA.out).mono ?_); rintro e W ⟨u, rfl, hu, hbz⟩; obtain ⟨A1, n1, c1, b1, rfl⟩ := hu.form; have HX := Lib.hid hu; have HB := Lib.hid (below_then' HB.out hbz); clear hu hbz))
  have k0 : Below W.heap.size W (W.alloc (.cells #[.slice A1 n1 c1, .bool b1] 32)) := (Below.refl _ _).alloc (Nat.le_refl _) _
  have hb1 : (W.alloc (.cells #[.slice A1 n1 c1, .bool b1] 32)).heap[W.heap.size]? = some (.cells #[.slice A1 n1 c1, .bool b1] 32 (0, 0)) := heap_alloc_new _ _
  obtain ⟨V, hV⟩ : ∃ V, W.alloc (.cells #[.slice A1 n1 c1, .bool b1] 32) = V := ⟨_, rfl⟩
  rw [hV] at k0 hb1 ⊢
  have HBV := Lib.hid (below_then' HB.out k0)
  have HTV := Lib.hid (HT.out.below HBV.out)
  have HXV := Lib.hid (HX.out.below k0)
  obtain ⟨P1, hP1⟩ : ∃ P1, W.heap.size = P1 := ⟨_, rfl⟩
  rw [hP1] at hb1 ⊢
  have c10 := box0 hb1; have c11 := box1 hb1
  clear k0 hV hP1 hb1 HB HX
  go_upto_region 12 with (first
  | (go_at_call 24; (with_reducible refine (rpower_c _ x m _ HXV.out HFX.out HMB.out).mono ?_); rintro e W5 ⟨A5, n5, c5, b5, ok, z, rfl, hu, hz, hok, hbz⟩; rw [HOK.out] at hok; subst hok; have HU := Lib.hid hu; have HZ := Lib.hid hz; have HB5 := Lib.hid hbz; clear hu hz hbz))
  have k0 : Below W5.heap.size W5 (W5.alloc (.cells #[.slice A5 n5 c5, .bool b5] 32)) := (Below.refl _ _).alloc (Nat.le_refl _) _
  have hb1 : (W5.alloc (.cells #[.slice A5 n5 c5, .bool b5] 32)).heap[W5.heap.size]? = some (.cells #[.slice A5 n5 c5, .bool b5] 32 (0, 0)) := heap_alloc_new _ _
  obtain ⟨V3, hV⟩ : ∃ V3, W5.alloc (.cells #[.slice A5 n5 c5, .bool b5] 32) = V3 := ⟨_, rfl⟩
  rw [hV] at k0 hb1 ⊢
  have k1 := below_then' HB5.out k0
  have c10 := keep_cell k1 c10; have c11 := keep_cell k1 c11
  have HXV := Lib.hid (HXV.out.below k1)
  have HBV := Lib.hid (below_then' HBV.out k1)
  have HTV := Lib.hid (HT.out.below HBV.out)
  have HUV := Lib.hid (HU.out.below k0)
  obtain ⟨P5, hP5⟩ : ∃ P5, W5.heap.size = P5 := ⟨_, rfl⟩
  rw [hP5] at hb1 ⊢
  have d0 := box0 hb1; have d1 := box1 hb1
  clear k0 k1 hV hP5 hb1 HB5 HU
  have HBC : Hid (Below V3.heap.size V3 V3) := Below.refl _ _
  go_upto_region 16 with (first
  | (go_at_call 22; (with_reducible refine (refused_c 5 _).mono ?_); rintro e W ⟨rfl, rfl⟩)
  | (go_at_call 22; (with_reducible refine (refused_c 3 _).mono ?_); rintro e W ⟨rfl, rfl⟩)
  | (go_at_call 21; (with_reducible refine (rvalid_at b _ _ VB2.out).mono ?_); rintro e W9 ⟨rfl, hbz⟩; have c10 := keep_cell hbz c10; have c11 := keep_cell hbz c11; have HBC := Lib.hid (below_then' HBC.out hbz); clear hbz))
  obtain ⟨V9, hV9, hB9⟩ := name_world HBC.out
  try rw [← hV9]
  rw [← hV9] at c10 c11
  clear hV9
  have HX9 := Lib.hid (HXV.out.below hB9)
  have HB8 := Lib.hid (below_then' HBV.out hB9)
  have HT9 := Lib.hid (HT.out.below HB8.out)
  clear hB9
  have HSS : Hid (∀ w', Below V9.heap.size V9 w' → w'.cell? ⟨P1, 0, none⟩ = some (.slice A1 n1 c1) ∧ w'.cell? ⟨P1, 1, none⟩ = some (.bool b1) ∧ Below V9.heap.size V9 w') := fun w' h => ⟨keep_cell h c10, keep_cell h c11, h⟩
  have hbl := Below.refl V9.heap.size V9
  go_region_held3 (fun w' => w'.cell? ⟨P1, 0, none⟩ = some (.slice A1 n1 c1) ∧ w'.cell? ⟨P1, 1, none⟩ = some (.bool b1) ∧ Below V9.heap.size V9 w')
    ((go_split_ands; (with_reducible refine HSS.out _ ?_); (repeat (first | (with_reducible assumption) | (with_reducible refine below_to ?_ hbz) | (with_reducible refine below_al ?_ _) | (with_reducible refine Below.drew ?_)))))
    (first
    | (go_at_call 18; (with_reducible refine (HS.out _ (HT9.out.below ?_)).mono ?_); (go_split_ands; with_reducible assumption); rintro e W9 ⟨rfl, hbz⟩; go_split_ands; have HB9 := Lib.hid (below_to (show Below V9.heap.size V9 _ by assumption) hbz))
    | (go_at_call 23; (with_reducible refine (rof_c b y _ HNB.out).mono ?_); rintro e W9 ⟨u, rfl, hu, hbz⟩; obtain ⟨A2, n2, c2, b2, rfl⟩ := hu.form; have HU2 := Lib.hid hu; clear hu; go_split_ands; have HB9 := Lib.hid (below_to (show Below V9.heap.size V9 _ by assumption) hbz))
    | (go_at_call 26; (with_reducible refine (product_c (.agg #[.slice A1 n1 c1, .bool b1]) (.agg #[.slice A2 n2 c2, .bool b2]) x y _ (HX9.out.below ?_) (HU2.out.below ?_) HL1.out HL2.out).mono ?_); (go_split_ands; with_reducible assumption); (first | (with_reducible exact Below.refl _ _) | (with_reducible exact (Below.refl _ _).drew) | (with_reducible exact (Below.refl _ _).alloc (Nat.le_refl _) _) | (with_reducible exact ((Below.refl _ _).alloc (Nat.le_refl _) _).drew)); rintro e W9 ⟨u, rfl, hu, hbz⟩; obtain ⟨A3, n3, c3, b3, rfl⟩ := hu.form; have HU3 := Lib.hid hu; clear hu; go_split_ands; have HB9 := Lib.hid (below_to (show Below V9.heap.size V9 _ by assumption) hbz))
    | (go_at_call 25; (with_reducible refine (is_c s1 e1 (.agg #[.slice A3 n3 c3, .bool b3]) (x * y) _ (HU3.out.below ?_) HL3.out H1.out.1 H1.out.2).mono ?_); (first | (with_reducible exact Below.refl _ _) | (with_reducible exact (Below.refl _ _).drew) | (with_reducible exact (Below.refl _ _).alloc (Nat.le_refl _) _) | (with_reducible exact ((Below.refl _ _).alloc (Nat.le_refl _) _).drew)); rintro e W9 ⟨rfl, hbz⟩; go_split_ands; have HB9 := Lib.hid (below_to (show Below V9.heap.size V9 _ by assumption) hbz)))
  go_wp2_with fail
  go_ret
  exact ⟨rfl, below_then' HB8.out HB9.out⟩

set_option maxRecDepth 100000 in
set_option maxHeartbeats 8000000 in
theorem prod_neg_no (hsan : San) (a b : ByteArray) (n : Int) (w : World) (ht : Tabs w) (x : Int) (hn : n < 0) (hn2 : n ≤ 9223372036854775807) (ha : SB3 true a) (hb : SB3 true b) (h1 : NumL a.data.toList x) (h2 : VB false b) :
    Calls Tryz.prog 3 #[.string a, .string b, .int .i64 n] w fun e w' => e = .returned (.bool true) ∧ Below w.heap.size w w' := by
  have HT := Lib.hid ht
  have HB : Hid (Below w.heap.size w w) := Below.refl _ _
  have HS : Hid (∀ w : World, Tabs w → Calls Tryz.prog 18 #[] w fun e w' => e = .returned (.bool true) ∧ Below w.heap.size w w') := hsan
  have SA := Lib.hid ha; have SB := Lib.hid hb; have VA : Hid (VB true a) := ⟨fun _ => ⟨x, h1⟩, fun _ => rfl⟩
  have HNA := Lib.hid h1; have HFX := Lib.hid h1.2
  have HLX := Lib.hid (len_fit h1.2)
  have HL1 : Hid ((dg 10 x.natAbs).length ≤ 1000000) := Nat.le_trans HLX.out (by decide)
  have HN2 := Lib.hid hn2
  have VB2 := Lib.hid h2
  have HNV : Hid (¬ ((∃ x, NumL a.data.toList x) ∧ ∃ y, NumL b.data.toList y)) := fun h => by have e1 := h2.2 h.2; cases e1
  have HN := Lib.hid hn
  clear ha hb h1 h2 hsan ht hn2 hn
  have hnn : n < 0 := HN.out
  go_enter Tryz.func3, Tryz.ntmps3
  go_upto_region 8 with (first
  | (go_at_call 17; (with_reducible refine (short_at a _ _ SA.out).mono ?_); rintro e W ⟨rfl, rfl⟩)
  | (go_at_call 17; (with_reducible refine (short_at b _ _ SB.out).mono ?_); rintro e W ⟨rfl, rfl⟩)
  | (go_at_call 19; (with_reducible refine (mul_bad a b _ (HT.out.below HB.out) HNV.out).mono ?_); rintro e W ⟨rfl, hbz⟩; have HB := Lib.hid (below_then' HB.out hbz); clear hbz)
  | (go_at_call 20; (with_reducible refine (pow_none a x n HN2.out _ (HT.out.below HB.out) HNA.out HN.out).mono ?_); rintro e W ⟨rfl, hbz⟩; have HB := Lib.hid (below_then' HB.out hbz); clear hbz)
  | (go_at_call 21; (with_reducible refine (rvalid_at a _ _ VA.out).mono ?_); rintro e W ⟨rfl, hbz⟩; have HB := Lib.hid (below_then' HB.out hbz); clear hbz)
  | (go_at_call 23; (with_reducible refine (rof_c a x _ HNA.out).mono ?_); rintro e W ⟨u, rfl, hu, hbz⟩; obtain ⟨A1, n1, c1, b1, rfl⟩ := hu.form; have HX := Lib.hid hu; have HB := Lib.hid (below_then' HB.out hbz); clear hu hbz))
  have k0 : Below W.heap.size W (W.alloc (.cells #[.slice A1 n1 c1, .bool b1] 32)) := (Below.refl _ _).alloc (Nat.le_refl _) _
  have hb1 : (W.alloc (.cells #[.slice A1 n1 c1, .bool b1] 32)).heap[W.heap.size]? = some (.cells #[.slice A1 n1 c1, .bool b1] 32 (0, 0)) := heap_alloc_new _ _
  obtain ⟨V, hV⟩ : ∃ V, W.alloc (.cells #[.slice A1 n1 c1, .bool b1] 32) = V := ⟨_, rfl⟩
  rw [hV] at k0 hb1 ⊢
  have HBV := Lib.hid (below_then' HB.out k0)
  have HTV := Lib.hid (HT.out.below HBV.out)
  have HXV := Lib.hid (HX.out.below k0)
  obtain ⟨P1, hP1⟩ : ∃ P1, W.heap.size = P1 := ⟨_, rfl⟩
  rw [hP1] at hb1 ⊢
  have c10 := box0 hb1; have c11 := box1 hb1
  clear k0 hV hP1 hb1 HB HX
  have HBC : Hid (Below V.heap.size V V) := Below.refl _ _
  go_wp2_with (first
  | (go_at_call 22; (with_reducible refine (refused_c 5 _).mono ?_); rintro e W ⟨rfl, rfl⟩)
  | (go_at_call 22; (with_reducible refine (refused_c 3 _).mono ?_); rintro e W ⟨rfl, rfl⟩)
  | (go_at_call 21; (with_reducible refine (rvalid_at b _ _ VB2.out).mono ?_); rintro e W9 ⟨rfl, hbz⟩; have c10 := keep_cell hbz c10; have c11 := keep_cell hbz c11; have HBC := Lib.hid (below_then' HBC.out hbz); clear hbz)
  | (go_at_call 18; (with_reducible refine (HS.out _ (HTV.out.below HBC.out)).mono ?_); rintro e W9 ⟨rfl, hbz⟩; have c10 := keep_cell hbz c10; have c11 := keep_cell hbz c11; have HBC := Lib.hid (below_then' HBC.out hbz); clear hbz)
  | (go_at_call 22; (with_reducible refine (refused_c 1 _).mono ?_); rintro e W ⟨rfl, rfl⟩))
  go_ret
  exact ⟨rfl, below_then' HBV.out HBC.out⟩

set_option maxRecDepth 100000 in
set_option maxHeartbeats 8000000 in
theorem prod_fit_no (hsan : San) (a b : ByteArray) (n : Int) (w : World) (ht : Tabs w) (x : Int) (m : Nat) (hn : n = (m : Int)) (hf : (x ^ m).natAbs < 10 ^ 200) (hn2 : n ≤ 9223372036854775807) (ha : SB3 true a) (hb : SB3 true b) (h1 : NumL a.data.toList x) (h2 : VB false b) :
    Calls Tryz.prog 3 #[.string a, .string b, .int .i64 n] w fun e w' => e = .returned (.bool true) ∧ Below w.heap.size w w' := by
  have HT := Lib.hid ht
  have HB : Hid (Below w.heap.size w w) := Below.refl _ _
  have HS : Hid (∀ w : World, Tabs w → Calls Tryz.prog 18 #[] w fun e w' => e = .returned (.bool true) ∧ Below w.heap.size w w') := hsan
  have SA := Lib.hid ha; have SB := Lib.hid hb; have VA : Hid (VB true a) := ⟨fun _ => ⟨x, h1⟩, fun _ => rfl⟩
  have HNA := Lib.hid h1; have HFX := Lib.hid h1.2
  have HLX := Lib.hid (len_fit h1.2)
  have HL1 : Hid ((dg 10 x.natAbs).length ≤ 1000000) := Nat.le_trans HLX.out (by decide)
  have HN2 := Lib.hid hn2
  have VB2 := Lib.hid h2
  have HNV : Hid (¬ ((∃ x, NumL a.data.toList x) ∧ ∃ y, NumL b.data.toList y)) := fun h => by have e1 := h2.2 h.2; cases e1
  subst hn
  have HMB := Lib.hid hn2
  have hm0 : ¬ (m : Int) < 0 := by omega
  have HOK : Hid (decide ((x ^ m).natAbs < 10 ^ 200) = true) := decide_eq_true hf
  have HLP : Hid ((dg 10 (x ^ m).natAbs).length ≤ 1000000) := Nat.le_trans (len_fit hf) (by decide)
  clear ha hb h1 h2 hsan ht hn2 hf
  obtain ⟨s2, hs2⟩ : ∃ s, txt (x ^ m) = s := ⟨_, rfl⟩
  obtain ⟨e2, he2⟩ : ∃ e, ern (x ^ m) = e := ⟨_, rfl⟩
  have H2 := Lib.hid (And.intro hs2 he2)
  have O2 := Lib.hid (he2 ▸ ern_or (x ^ m))
  clear hs2 he2
  go_enter Tryz.func3, Tryz.ntmps3
  go_upto_region 8 with (first
  | (go_at_call 17; (with_reducible refine (short_at a _ _ SA.out).mono ?_); rintro e W ⟨rfl, rfl⟩)
  | (go_at_call 17; (with_reducible refine (short_at b _ _ SB.out).mono ?_); rintro e W ⟨rfl, rfl⟩)
  | (go_at_call 19; (with_reducible refine (mul_bad a b _ (HT.out.below HB.out) HNV.out).mono ?_); rintro e W ⟨rfl, hbz⟩; have HB := Lib.hid (below_then' HB.out hbz); clear hbz)
  | (go_at_call 20; (with_reducible refine (pow_nat a x m s2 e2 _ HNA.out HMB.out H2.out.1 H2.out.2 (HT.out.below HB.out)).mono ?_); rintro e W ⟨rfl, hbz⟩; have HB := Lib.hid (below_then' HB.out hbz); clear hbz)
  | (go_at_call 21; (with_reducible refine (rvalid_at a _ _ VA.out).mono ?_); rintro e W ⟨rfl, hbz⟩; have HB := Lib.hid (below_then' HB.out hbz); clear hbz)
  | (go_at_call 23; (with_reducible refine (rof_c a x _ HNA.out).mono ?_); rintro e W ⟨u, rfl, hu, hbz⟩; obtain ⟨A1, n1, c1, b1, rfl⟩ := hu.form; have HX := Lib.hid hu; have HB := Lib.hid (below_then' HB.out hbz); clear hu hbz))
  have k0 : Below W.heap.size W (W.alloc (.cells #[.slice A1 n1 c1, .bool b1] 32)) := (Below.refl _ _).alloc (Nat.le_refl _) _
  have hb1 : (W.alloc (.cells #[.slice A1 n1 c1, .bool b1] 32)).heap[W.heap.size]? = some (.cells #[.slice A1 n1 c1, .bool b1] 32 (0, 0)) := heap_alloc_new _ _
  obtain ⟨V, hV⟩ : ∃ V, W.alloc (.cells #[.slice A1 n1 c1, .bool b1] 32) = V := ⟨_, rfl⟩
  rw [hV] at k0 hb1 ⊢
  have HBV := Lib.hid (below_then' HB.out k0)
  have HTV := Lib.hid (HT.out.below HBV.out)
  have HXV := Lib.hid (HX.out.below k0)
  obtain ⟨P1, hP1⟩ : ∃ P1, W.heap.size = P1 := ⟨_, rfl⟩
  rw [hP1] at hb1 ⊢
  have c10 := box0 hb1; have c11 := box1 hb1
  clear k0 hV hP1 hb1 HB HX
  go_upto_region 12 with (first
  | (go_at_call 24; (with_reducible refine (rpower_c _ x m _ HXV.out HFX.out HMB.out).mono ?_); rintro e W5 ⟨A5, n5, c5, b5, ok, z, rfl, hu, hz, hok, hbz⟩; rw [HOK.out] at hok; subst hok; have HU := Lib.hid hu; have HZ := Lib.hid hz; have HB5 := Lib.hid hbz; clear hu hz hbz))
  have k0 : Below W5.heap.size W5 (W5.alloc (.cells #[.slice A5 n5 c5, .bool b5] 32)) := (Below.refl _ _).alloc (Nat.le_refl _) _
  have hb1 : (W5.alloc (.cells #[.slice A5 n5 c5, .bool b5] 32)).heap[W5.heap.size]? = some (.cells #[.slice A5 n5 c5, .bool b5] 32 (0, 0)) := heap_alloc_new _ _
  obtain ⟨V3, hV⟩ : ∃ V3, W5.alloc (.cells #[.slice A5 n5 c5, .bool b5] 32) = V3 := ⟨_, rfl⟩
  rw [hV] at k0 hb1 ⊢
  have k1 := below_then' HB5.out k0
  have c10 := keep_cell k1 c10; have c11 := keep_cell k1 c11
  have HXV := Lib.hid (HXV.out.below k1)
  have HBV := Lib.hid (below_then' HBV.out k1)
  have HTV := Lib.hid (HT.out.below HBV.out)
  have HUV := Lib.hid (HU.out.below k0)
  obtain ⟨P5, hP5⟩ : ∃ P5, W5.heap.size = P5 := ⟨_, rfl⟩
  rw [hP5] at hb1 ⊢
  have d0 := box0 hb1; have d1 := box1 hb1
  clear k0 k1 hV hP5 hb1 HB5 HU
  have HSZ : Hid (txt z = s2 ∧ ern z = e2) := by show _ ∧ _; rw [HZ.out (by first | trivial | rfl)]; exact H2.out
  have HLZ : Hid ((dg 10 z.natAbs).length ≤ 1000000) := by show _ ≤ _; rw [HZ.out (by first | trivial | rfl)]; exact HLP.out
  have HBC : Hid (Below V3.heap.size V3 V3) := Below.refl _ _
  go_wp2_with (first
  | (go_at_call 22; (with_reducible refine (refused_c 5 _).mono ?_); rintro e W ⟨rfl, rfl⟩)
  | (go_at_call 22; (with_reducible refine (refused_c 3 _).mono ?_); rintro e W ⟨rfl, rfl⟩)
  | (go_at_call 21; (with_reducible refine (rvalid_at b _ _ VB2.out).mono ?_); rintro e W9 ⟨rfl, hbz⟩; have c10 := keep_cell hbz c10; have c11 := keep_cell hbz c11; have HBC := Lib.hid (below_then' HBC.out hbz); clear hbz)
  | (go_at_call 25; (with_reducible refine (is_c s2 e2 (.agg #[.slice A5 n5 c5, .bool b5]) z _ (HUV.out.below HBC.out) HLZ.out HSZ.out.1 HSZ.out.2).mono ?_); rintro e W9 ⟨rfl, hbz⟩; have c10 := keep_cell hbz c10; have c11 := keep_cell hbz c11; have HBC := Lib.hid (below_then' HBC.out hbz); clear hbz)
  | (go_at_call 18; (with_reducible refine (HS.out _ (HTV.out.below HBC.out)).mono ?_); rintro e W9 ⟨rfl, hbz⟩; have c10 := keep_cell hbz c10; have c11 := keep_cell hbz c11; have HBC := Lib.hid (below_then' HBC.out hbz); clear hbz)
  | (go_at_call 22; (with_reducible refine (refused_c 1 _).mono ?_); rintro e W ⟨rfl, rfl⟩))
  go_ret
  exact ⟨rfl, below_then' HBV.out HBC.out⟩

set_option maxRecDepth 100000 in
set_option maxHeartbeats 8000000 in
theorem prod_big_no (hsan : San) (a b : ByteArray) (n : Int) (w : World) (ht : Tabs w) (x : Int) (m : Nat) (hn : n = (m : Int)) (hf : ¬ (x ^ m).natAbs < 10 ^ 200) (hn2 : n ≤ 9223372036854775807) (ha : SB3 true a) (hb : SB3 true b) (h1 : NumL a.data.toList x) (h2 : VB false b) :
    Calls Tryz.prog 3 #[.string a, .string b, .int .i64 n] w fun e w' => e = .returned (.bool true) ∧ Below w.heap.size w w' := by
  have HT := Lib.hid ht
  have HB : Hid (Below w.heap.size w w) := Below.refl _ _
  have HS : Hid (∀ w : World, Tabs w → Calls Tryz.prog 18 #[] w fun e w' => e = .returned (.bool true) ∧ Below w.heap.size w w') := hsan
  have SA := Lib.hid ha; have SB := Lib.hid hb; have VA : Hid (VB true a) := ⟨fun _ => ⟨x, h1⟩, fun _ => rfl⟩
  have HNA := Lib.hid h1; have HFX := Lib.hid h1.2
  have HLX := Lib.hid (len_fit h1.2)
  have HL1 : Hid ((dg 10 x.natAbs).length ≤ 1000000) := Nat.le_trans HLX.out (by decide)
  have HN2 := Lib.hid hn2
  have VB2 := Lib.hid h2
  have HNV : Hid (¬ ((∃ x, NumL a.data.toList x) ∧ ∃ y, NumL b.data.toList y)) := fun h => by have e1 := h2.2 h.2; cases e1
  subst hn
  have HMB := Lib.hid hn2
  have hm0 : ¬ (m : Int) < 0 := by omega
  have HOK : Hid (decide ((x ^ m).natAbs < 10 ^ 200) = false) := decide_eq_false hf
  have HSB : Hid (txt (x ^ m) = ⟨#[]⟩ ∧ ern (x ^ m) = 3) := ⟨by rw [txt, if_neg hf], by rw [ern, if_neg hf]⟩
  clear ha hb h1 h2 hsan ht hn2 hf
  go_enter Tryz.func3, Tryz.ntmps3
  go_upto_region 8 with (first
  | (go_at_call 17; (with_reducible refine (short_at a _ _ SA.out).mono ?_); rintro e W ⟨rfl, rfl⟩)
  | (go_at_call 17; (with_reducible refine (short_at b _ _ SB.out).mono ?_); rintro e W ⟨rfl, rfl⟩)
  | (go_at_call 19; (with_reducible refine (mul_bad a b _ (HT.out.below HB.out) HNV.out).mono ?_); rintro e W ⟨rfl, hbz⟩; have HB := Lib.hid (below_then' HB.out hbz); clear hbz)
  | (go_at_call 20; (with_reducible refine (pow_nat a x m ⟨#[]⟩ 3 _ HNA.out HMB.out HSB.out.1 HSB.out.2 (HT.out.below HB.out)).mono ?_); rintro e W ⟨rfl, hbz⟩; have HB := Lib.hid (below_then' HB.out hbz); clear hbz)
  | (go_at_call 21; (with_reducible refine (rvalid_at a _ _ VA.out).mono ?_); rintro e W ⟨rfl, hbz⟩; have HB := Lib.hid (below_then' HB.out hbz); clear hbz)
  | (go_at_call 23; (with_reducible refine (rof_c a x _ HNA.out).mono ?_); rintro e W ⟨u, rfl, hu, hbz⟩; obtain ⟨A1, n1, c1, b1, rfl⟩ := hu.form; have HX := Lib.hid hu; have HB := Lib.hid (below_then' HB.out hbz); clear hu hbz))
  have k0 : Below W.heap.size W (W.alloc (.cells #[.slice A1 n1 c1, .bool b1] 32)) := (Below.refl _ _).alloc (Nat.le_refl _) _
  have hb1 : (W.alloc (.cells #[.slice A1 n1 c1, .bool b1] 32)).heap[W.heap.size]? = some (.cells #[.slice A1 n1 c1, .bool b1] 32 (0, 0)) := heap_alloc_new _ _
  obtain ⟨V, hV⟩ : ∃ V, W.alloc (.cells #[.slice A1 n1 c1, .bool b1] 32) = V := ⟨_, rfl⟩
  rw [hV] at k0 hb1 ⊢
  have HBV := Lib.hid (below_then' HB.out k0)
  have HTV := Lib.hid (HT.out.below HBV.out)
  have HXV := Lib.hid (HX.out.below k0)
  obtain ⟨P1, hP1⟩ : ∃ P1, W.heap.size = P1 := ⟨_, rfl⟩
  rw [hP1] at hb1 ⊢
  have c10 := box0 hb1; have c11 := box1 hb1
  clear k0 hV hP1 hb1 HB HX
  go_upto_region 12 with (first
  | (go_at_call 24; (with_reducible refine (rpower_c _ x m _ HXV.out HFX.out HMB.out).mono ?_); rintro e W5 ⟨A5, n5, c5, b5, ok, z, rfl, hu, hz, hok, hbz⟩; rw [HOK.out] at hok; subst hok; have HU := Lib.hid hu; have HZ := Lib.hid hz; have HB5 := Lib.hid hbz; clear hu hz hbz))
  have k0 : Below W5.heap.size W5 (W5.alloc (.cells #[.slice A5 n5 c5, .bool b5] 32)) := (Below.refl _ _).alloc (Nat.le_refl _) _
  have hb1 : (W5.alloc (.cells #[.slice A5 n5 c5, .bool b5] 32)).heap[W5.heap.size]? = some (.cells #[.slice A5 n5 c5, .bool b5] 32 (0, 0)) := heap_alloc_new _ _
  obtain ⟨V3, hV⟩ : ∃ V3, W5.alloc (.cells #[.slice A5 n5 c5, .bool b5] 32) = V3 := ⟨_, rfl⟩
  rw [hV] at k0 hb1 ⊢
  have k1 := below_then' HB5.out k0
  have c10 := keep_cell k1 c10; have c11 := keep_cell k1 c11
  have HXV := Lib.hid (HXV.out.below k1)
  have HBV := Lib.hid (below_then' HBV.out k1)
  have HTV := Lib.hid (HT.out.below HBV.out)
  have HUV := Lib.hid (HU.out.below k0)
  obtain ⟨P5, hP5⟩ : ∃ P5, W5.heap.size = P5 := ⟨_, rfl⟩
  rw [hP5] at hb1 ⊢
  have d0 := box0 hb1; have d1 := box1 hb1
  clear k0 k1 hV hP5 hb1 HB5 HU
  have HBC : Hid (Below V3.heap.size V3 V3) := Below.refl _ _
  go_wp2_with (first
  | (go_at_call 22; (with_reducible refine (refused_c 5 _).mono ?_); rintro e W ⟨rfl, rfl⟩)
  | (go_at_call 22; (with_reducible refine (refused_c 3 _).mono ?_); rintro e W ⟨rfl, rfl⟩)
  | (go_at_call 21; (with_reducible refine (rvalid_at b _ _ VB2.out).mono ?_); rintro e W9 ⟨rfl, hbz⟩; have c10 := keep_cell hbz c10; have c11 := keep_cell hbz c11; have HBC := Lib.hid (below_then' HBC.out hbz); clear hbz)
  | (go_at_call 18; (with_reducible refine (HS.out _ (HTV.out.below HBC.out)).mono ?_); rintro e W9 ⟨rfl, hbz⟩; have c10 := keep_cell hbz c10; have c11 := keep_cell hbz c11; have HBC := Lib.hid (below_then' HBC.out hbz); clear hbz)
  | (go_at_call 22; (with_reducible refine (refused_c 1 _).mono ?_); rintro e W ⟨rfl, rfl⟩))
  go_ret
  exact ⟨rfl, below_then' HBV.out HBC.out⟩

theorem numberProducts_c (hsan : San) (a b : ByteArray) (n : Int) (hn0 : -9223372036854775808 ≤ n) (hn2 : n ≤ 9223372036854775807) (w : World) (ht : Tabs w) : Calls Tryz.prog 3 #[.string a, .string b, .int .i64 n] w fun e w' => e = .returned (.bool true) ∧ Below w.heap.size w w' := by
  obtain ⟨sa, ha⟩ : ∃ s, SB3 s a := ⟨_, rfl⟩
  obtain ⟨sb, hb⟩ : ∃ s, SB3 s b := ⟨_, rfl⟩
  by_cases hs : (sa && sb) = true
  · obtain ⟨rfl, rfl⟩ : sa = true ∧ sb = true := by simpa using hs
    obtain ⟨va, h1⟩ := vb_ex a
    obtain ⟨vb, h2⟩ := vb_ex b
    cases va
    · exact prod_bad hsan a b n w ht vb hn2 ha hb h1 h2
    · obtain ⟨x, hx⟩ := h1.1 rfl
      by_cases hn : n < 0
      · cases vb
        · exact prod_neg_no hsan a b n w ht x hn hn2 ha hb hx h2
        · obtain ⟨y, hy⟩ := h2.1 rfl
          exact prod_neg_ok hsan a b n w ht x y hn hn2 ha hb hx hy
      · obtain ⟨m, hm⟩ : ∃ m : Nat, n = (m : Int) := ⟨n.toNat, by omega⟩
        by_cases hf : (x ^ m).natAbs < 10 ^ 200
        · cases vb
          · exact prod_fit_no hsan a b n w ht x m hm hf hn2 ha hb hx h2
          · obtain ⟨y, hy⟩ := h2.1 rfl
            exact prod_fit_ok hsan a b n w ht x y m hm hf hn2 ha hb hx hy
        · cases vb
          · exact prod_big_no hsan a b n w ht x m hm hf hn2 ha hb hx h2
          · obtain ⟨y, hy⟩ := h2.1 rfl
            exact prod_big_ok hsan a b n w ht x y m hm hf hn2 ha hb hx hy
  · exact prod_long hsan a b n w ht sa sb ha hb (by simpa using hs)

end Go.Proofs.YtbjgpbdkofadiaaGreatDoor
