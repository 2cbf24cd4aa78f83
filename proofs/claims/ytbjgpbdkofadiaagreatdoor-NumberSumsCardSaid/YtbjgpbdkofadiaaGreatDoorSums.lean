/- The law NumberSums. -/
import Derived.Test.YtbjgpbdkofadiaaGreatDoorRefR
import Derived.Test.YtbjgpbdkofadiaaGreatDoorRefP
import Derived.Deep.DrawnRows
namespace Go.Proofs.YtbjgpbdkofadiaaGreatDoor
set_option linter.unusedVariables false
set_option linter.unusedSimpArgs false
open Go.RowKit Go.Shelf Go.Proofs
attribute [local go_sem ↓] Go.wp_at_zero Go.wp_at_succ

theorem cmp_bad (S T : ByteArray) (w : World) (ht : Tabs w) (hn : ¬ ((∃ x, NumL S.data.toList x) ∧ ∃ y, NumL T.data.toList y)) : Calls Tryz.prog 45 #[.string S, .string T] w fun e w' => e = .returned (.tuple #[.int .i64 0, .int .i64 1]) ∧ Below w.heap.size w w' :=
  (numCmp_c S T w ht).mono fun _ _ h => bi_bad h hn
theorem add_bad (S T : ByteArray) (w : World) (ht : Tabs w) (hn : ¬ ((∃ x, NumL S.data.toList x) ∧ ∃ y, NumL T.data.toList y)) : Calls Tryz.prog 42 #[.string S, .string T] w fun e w' => e = .returned (.tuple #[.string ⟨#[]⟩, .int .i64 1]) ∧ Below w.heap.size w w' :=
  (numAdd_c S T w ht).mono fun _ _ h => bi_bad h hn
theorem sub_bad (S T : ByteArray) (w : World) (ht : Tabs w) (hn : ¬ ((∃ x, NumL S.data.toList x) ∧ ∃ y, NumL T.data.toList y)) : Calls Tryz.prog 44 #[.string S, .string T] w fun e w' => e = .returned (.tuple #[.string ⟨#[]⟩, .int .i64 1]) ∧ Below w.heap.size w w' :=
  (numSub_c S T w ht).mono fun _ _ h => bi_bad h hn

set_option maxRecDepth 100000 in
set_option maxHeartbeats 8000000 in
theorem sums_long (hsan : San) (a b : ByteArray) (w : World) (ht : Tabs w) (sa sb : Bool) (ha : SB3 sa a) (hb : SB3 sb b) (hn : (sa && sb) = false) :
    Calls Tryz.prog 10 #[.string a, .string b] w fun e w' => e = .returned (.bool true) ∧ Below w.heap.size w w' := by
  have HT := Lib.hid ht
  have HB : Hid (Below w.heap.size w w) := Below.refl _ _
  have HS : Hid (∀ w : World, Tabs w → Calls Tryz.prog 18 #[] w fun e w' => e = .returned (.bool true) ∧ Below w.heap.size w w') := hsan
  have SA := Lib.hid ha; have SB := Lib.hid hb
  clear ha hb hsan ht
  cases sa
  · clear hn
    go_enter Tryz.func10, Tryz.ntmps10
    go_wp2_with (first
    | (go_at_call 17; (with_reducible refine (short_at a _ _ SA.out).mono ?_); rintro e W ⟨rfl, rfl⟩)
    | (go_at_call 18; (with_reducible refine (HS.out _ (HT.out.below HB.out)).mono ?_); rintro e W ⟨rfl, hbz⟩; have HB := Lib.hid (below_then' HB.out hbz); clear hbz))
    go_ret
    exact ⟨rfl, HB.out⟩
  · obtain rfl : sb = false := by simpa using hn
    clear hn
    go_enter Tryz.func10, Tryz.ntmps10
    go_wp2_with (first
    | (go_at_call 17; (with_reducible refine (short_at a _ _ SA.out).mono ?_); rintro e W ⟨rfl, rfl⟩)
    | (go_at_call 17; (with_reducible refine (short_at b _ _ SB.out).mono ?_); rintro e W ⟨rfl, rfl⟩)
    | (go_at_call 18; (with_reducible refine (HS.out _ (HT.out.below HB.out)).mono ?_); rintro e W ⟨rfl, hbz⟩; have HB := Lib.hid (below_then' HB.out hbz); clear hbz))
    go_ret
    exact ⟨rfl, HB.out⟩

set_option maxRecDepth 100000 in
set_option maxHeartbeats 8000000 in
theorem sums_bad (hsan : San) (a b : ByteArray) (w : World) (ht : Tabs w) (va vb : Bool) (ha : SB3 true a) (hb : SB3 true b) (h1 : VB va a) (h2 : VB vb b) (hn : (va && vb) = false) :
    Calls Tryz.prog 10 #[.string a, .string b] w fun e w' => e = .returned (.bool true) ∧ Below w.heap.size w w' := by
  have HT := Lib.hid ht
  have HB : Hid (Below w.heap.size w w) := Below.refl _ _
  have HS : Hid (∀ w : World, Tabs w → Calls Tryz.prog 18 #[] w fun e w' => e = .returned (.bool true) ∧ Below w.heap.size w w') := hsan
  have SA := Lib.hid ha; have SB := Lib.hid hb; have VA := Lib.hid h1; have VB2 := Lib.hid h2
  have HNV : Hid (¬ ((∃ x, NumL a.data.toList x) ∧ ∃ y, NumL b.data.toList y)) := fun h => by
    have e1 := h1.2 h.1
    have e2 := h2.2 h.2
    rw [e1, e2] at hn
    cases hn
  clear ha hb h1 h2 hsan ht
  cases va
  · clear hn
    go_enter Tryz.func10, Tryz.ntmps10
    go_wp2_with (first
    | (go_at_call 17; (with_reducible refine (short_at a _ _ SA.out).mono ?_); rintro e W ⟨rfl, rfl⟩)
    | (go_at_call 17; (with_reducible refine (short_at b _ _ SB.out).mono ?_); rintro e W ⟨rfl, rfl⟩)
    | (go_at_call 45; (with_reducible refine (cmp_bad a b _ (HT.out.below HB.out) HNV.out).mono ?_); rintro e W ⟨rfl, hbz⟩; have HB := Lib.hid (below_then' HB.out hbz); clear hbz)
    | (go_at_call 42; (with_reducible refine (add_bad a b _ (HT.out.below HB.out) HNV.out).mono ?_); rintro e W ⟨rfl, hbz⟩; have HB := Lib.hid (below_then' HB.out hbz); clear hbz)
    | (go_at_call 44; (with_reducible refine (sub_bad a b _ (HT.out.below HB.out) HNV.out).mono ?_); rintro e W ⟨rfl, hbz⟩; have HB := Lib.hid (below_then' HB.out hbz); clear hbz)
    | (go_at_call 21; (with_reducible refine (rvalid_at a _ _ VA.out).mono ?_); rintro e W ⟨rfl, hbz⟩; have HB := Lib.hid (below_then' HB.out hbz); clear hbz)
    | (go_at_call 21; (with_reducible refine (rvalid_at b _ _ VB2.out).mono ?_); rintro e W ⟨rfl, hbz⟩; have HB := Lib.hid (below_then' HB.out hbz); clear hbz)
    | (go_at_call 18; (with_reducible refine (HS.out _ (HT.out.below HB.out)).mono ?_); rintro e W ⟨rfl, hbz⟩; have HB := Lib.hid (below_then' HB.out hbz); clear hbz)
    | (go_at_call 22; (with_reducible refine (refused_c 1 _).mono ?_); rintro e W ⟨rfl, rfl⟩))
    go_ret
    exact ⟨rfl, HB.out⟩
  · obtain rfl : vb = false := by simpa using hn
    clear hn
    go_enter Tryz.func10, Tryz.ntmps10
    go_wp2_with (first
    | (go_at_call 17; (with_reducible refine (short_at a _ _ SA.out).mono ?_); rintro e W ⟨rfl, rfl⟩)
    | (go_at_call 17; (with_reducible refine (short_at b _ _ SB.out).mono ?_); rintro e W ⟨rfl, rfl⟩)
    | (go_at_call 45; (with_reducible refine (cmp_bad a b _ (HT.out.below HB.out) HNV.out).mono ?_); rintro e W ⟨rfl, hbz⟩; have HB := Lib.hid (below_then' HB.out hbz); clear hbz)
    | (go_at_call 42; (with_reducible refine (add_bad a b _ (HT.out.below HB.out) HNV.out).mono ?_); rintro e W ⟨rfl, hbz⟩; have HB := Lib.hid (below_then' HB.out hbz); clear hbz)
    | (go_at_call 44; (with_reducible refine (sub_bad a b _ (HT.out.below HB.out) HNV.out).mono ?_); rintro e W ⟨rfl, hbz⟩; have HB := Lib.hid (below_then' HB.out hbz); clear hbz)
    | (go_at_call 21; (with_reducible refine (rvalid_at a _ _ VA.out).mono ?_); rintro e W ⟨rfl, hbz⟩; have HB := Lib.hid (below_then' HB.out hbz); clear hbz)
    | (go_at_call 21; (with_reducible refine (rvalid_at b _ _ VB2.out).mono ?_); rintro e W ⟨rfl, hbz⟩; have HB := Lib.hid (below_then' HB.out hbz); clear hbz)
    | (go_at_call 18; (with_reducible refine (HS.out _ (HT.out.below HB.out)).mono ?_); rintro e W ⟨rfl, hbz⟩; have HB := Lib.hid (below_then' HB.out hbz); clear hbz)
    | (go_at_call 22; (with_reducible refine (refused_c 1 _).mono ?_); rintro e W ⟨rfl, rfl⟩))
    go_ret
    exact ⟨rfl, HB.out⟩

set_option maxRecDepth 100000 in
set_option maxHeartbeats 8000000 in
theorem sums_ok (hsan : San) (a b : ByteArray) (w : World) (ht : Tabs w) (x y : Int) (ha : SB3 true a) (hb : SB3 true b) (h1 : NumL a.data.toList x) (h2 : NumL b.data.toList y) :
    Calls Tryz.prog 10 #[.string a, .string b] w fun e w' => e = .returned (.bool true) ∧ Below w.heap.size w w' := by
  have HT := Lib.hid ht
  have HB : Hid (Below w.heap.size w w) := Below.refl _ _
  have HS : Hid (∀ w : World, Tabs w → Calls Tryz.prog 18 #[] w fun e w' => e = .returned (.bool true) ∧ Below w.heap.size w w') := hsan
  have SA := Lib.hid ha; have SB := Lib.hid hb; have VA : Hid (VB true a) := ⟨fun _ => ⟨x, h1⟩, fun _ => rfl⟩; have VB2 : Hid (VB true b) := ⟨fun _ => ⟨y, h2⟩, fun _ => rfl⟩
  have HNA := Lib.hid h1; have HNB := Lib.hid h2
  have HLX := Lib.hid (len_fit h1.2); have HLY := Lib.hid (len_fit h2.2)
  obtain ⟨g, hg⟩ : ∃ g, sgn (x + -y) = g := ⟨_, rfl⟩
  have HG := Lib.hid hg
  clear ha hb h1 h2 hsan ht hg
  obtain ⟨s1, hs1⟩ : ∃ s, txt (x + y) = s := ⟨_, rfl⟩
  obtain ⟨e1, he1⟩ : ∃ e, ern (x + y) = e := ⟨_, rfl⟩
  have H1 := Lib.hid (And.intro hs1 he1)
  have O1 := Lib.hid (he1 ▸ ern_or (x + y))
  clear hs1 he1
  obtain ⟨s2, hs2⟩ : ∃ s, txt (x + -y) = s := ⟨_, rfl⟩
  obtain ⟨e2, he2⟩ : ∃ e, ern (x + -y) = e := ⟨_, rfl⟩
  have H2 := Lib.hid (And.intro hs2 he2)
  have O2 := Lib.hid (he2 ▸ ern_or (x + -y))
  clear hs2 he2
  go_enter Tryz.func10, Tryz.ntmps10
  go_upto_region 10 with (first
  | (go_at_call 17; (with_reducible refine (short_at a _ _ SA.out).mono ?_); rintro e W ⟨rfl, rfl⟩)
  | (go_at_call 17; (with_reducible refine (short_at b _ _ SB.out).mono ?_); rintro e W ⟨rfl, rfl⟩)
  | (go_at_call 45; (with_reducible refine (law_cmp_at a b x y g _ HNA.out HNB.out HG.out (HT.out.below HB.out)).mono ?_); rintro e W ⟨rfl, hbz⟩; have HB := Lib.hid (below_then' HB.out hbz); clear hbz)
  | (go_at_call 42; (with_reducible refine (law_add a b x y s1 e1 _ HNA.out HNB.out H1.out.1 H1.out.2 (HT.out.below HB.out)).mono ?_); rintro e W ⟨rfl, hbz⟩; have HB := Lib.hid (below_then' HB.out hbz); clear hbz)
  | (go_at_call 44; (with_reducible refine (law_sub a b x y s2 e2 _ HNA.out HNB.out H2.out.1 H2.out.2 (HT.out.below HB.out)).mono ?_); rintro e W ⟨rfl, hbz⟩; have HB := Lib.hid (below_then' HB.out hbz); clear hbz)
  | (go_at_call 21; (with_reducible refine (rvalid_at a _ _ VA.out).mono ?_); rintro e W ⟨rfl, hbz⟩; have HB := Lib.hid (below_then' HB.out hbz); clear hbz)
  | (go_at_call 21; (with_reducible refine (rvalid_at b _ _ VB2.out).mono ?_); rintro e W ⟨rfl, hbz⟩; have HB := Lib.hid (below_then' HB.out hbz); clear hbz)
  | (go_at_call 23; (with_reducible refine (rof_c a x _ HNA.out).mono ?_); rintro e W ⟨u, rfl, hu, hbz⟩; obtain ⟨A1, n1, c1, b1, rfl⟩ := hu.form; have HX := Lib.hid hu; have HB := Lib.hid (below_then' HB.out hbz); clear hu hbz)
  | (go_at_call 23; (with_reducible refine (rof_c b y _ HNB.out).mono ?_); rintro e W2 ⟨u, rfl, hu, hbz⟩; obtain ⟨A2, n2, c2, b2, rfl⟩ := hu.form; have HY := Lib.hid hu; have HBY := Lib.hid hbz; clear hu hbz))
  have k0 : Below W.heap.size W (W.alloc (.cells #[.slice A1 n1 c1, .bool b1] 32)) := (Below.refl _ _).alloc (Nat.le_refl _) _
  have k1 := below_then' k0 HBY.out
  have k2 : Below W2.heap.size W2 (W2.alloc (.cells #[.slice A2 n2 c2, .bool b2] 32)) := (Below.refl _ _).alloc (Nat.le_refl _) _
  have hb1 : (W.alloc (.cells #[.slice A1 n1 c1, .bool b1] 32)).heap[W.heap.size]? = some (.cells #[.slice A1 n1 c1, .bool b1] 32 (0, 0)) := heap_alloc_new _ _
  have hb1 := heap_below (heap_below hb1 HBY.out) k2
  have hb2 : (W2.alloc (.cells #[.slice A2 n2 c2, .bool b2] 32)).heap[W2.heap.size]? = some (.cells #[.slice A2 n2 c2, .bool b2] 32 (0, 0)) := heap_alloc_new _ _
  obtain ⟨V, hV⟩ : ∃ V, W2.alloc (.cells #[.slice A2 n2 c2, .bool b2] 32) = V := ⟨_, rfl⟩
  rw [hV] at k2 hb1 hb2 ⊢
  have k3 := below_then' k1 k2
  have HBV := Lib.hid (below_then' HB.out k3)
  have HTV := Lib.hid (HT.out.below HBV.out)
  have HXV := Lib.hid (HX.out.below k3)
  have HYV := Lib.hid (HY.out.below k2)
  obtain ⟨P1, hP1⟩ : ∃ P1, W.heap.size = P1 := ⟨_, rfl⟩
  obtain ⟨P2, hP2⟩ : ∃ P2, W2.heap.size = P2 := ⟨_, rfl⟩
  rw [hP1] at hb1 ⊢
  rw [hP2] at hb2 ⊢
  have c10 := box0 hb1; have c11 := box1 hb1; have c20 := box0 hb2; have c21 := box1 hb2
  clear k0 k1 k2 k3 hV hP1 hP2 hb1 hb2
  have HL1 : Hid ((dg 10 x.natAbs).length ≤ 1000000) := Nat.le_trans HLX.out (by decide)
  have HL2 : Hid ((dg 10 y.natAbs).length ≤ 1000000) := Nat.le_trans HLY.out (by decide)
  have HL3 : Hid ((dg 10 (x + y).natAbs).length ≤ 1000000) := Nat.le_trans (len_sum HLX.out HLY.out) (by decide)
  have HLM : Hid ((dg 10 (-1 : Int).natAbs).length ≤ 1000000) := by show _ ≤ _; decide +kernel
  have HL5' : Hid ((dg 10 (y * -1).natAbs).length ≤ 1000) := by show _ ≤ _; rw [Int.natAbs_mul]; simpa using HLY.out
  have HL5 : Hid ((dg 10 (y * -1).natAbs).length ≤ 1000000) := Nat.le_trans HL5'.out (by decide)
  have HL6 : Hid ((dg 10 (x + y * -1).natAbs).length ≤ 1000000) := Nat.le_trans (len_sum HLX.out HL5'.out) (by decide)
  have HG2 : Hid (sgn (x - y) = g) := by show _ = _; rw [Int.sub_eq_add_neg]; exact HG.out
  have HE2 : Hid (txt (x + y * -1) = s2 ∧ ern (x + y * -1) = e2) := by show _ ∧ _; rw [show x + y * -1 = x + -y by omega]; exact H2.out
  have HSS : Hid (∀ w', Below V.heap.size V w' → w'.cell? ⟨P1, 0, none⟩ = some (.slice A1 n1 c1) ∧ w'.cell? ⟨P1, 1, none⟩ = some (.bool b1) ∧ w'.cell? ⟨P2, 0, none⟩ = some (.slice A2 n2 c2) ∧ w'.cell? ⟨P2, 1, none⟩ = some (.bool b2) ∧ Below V.heap.size V w') := fun w' h => ⟨keep_cell h c10, keep_cell h c11, keep_cell h c20, keep_cell h c21, h⟩
  have hbl := Below.refl V.heap.size V
  go_region_held3 (fun w' => w'.cell? ⟨P1, 0, none⟩ = some (.slice A1 n1 c1) ∧ w'.cell? ⟨P1, 1, none⟩ = some (.bool b1) ∧ w'.cell? ⟨P2, 0, none⟩ = some (.slice A2 n2 c2) ∧ w'.cell? ⟨P2, 1, none⟩ = some (.bool b2) ∧ Below V.heap.size V w')
    ((go_split_ands; (with_reducible refine HSS.out _ ?_); (repeat (first | (with_reducible assumption) | (with_reducible refine below_to ?_ hbz) | (with_reducible refine below_al ?_ _) | (with_reducible refine Below.drew ?_)))))
    (first
    | (go_at_call 18; (with_reducible refine (HS.out _ (HTV.out.below ?_)).mono ?_); (go_split_ands; with_reducible assumption); rintro e W9 ⟨rfl, hbz⟩; go_split_ands; have HB9 := Lib.hid (below_to (show Below V.heap.size V _ by assumption) hbz))
    | (go_at_call 46; (with_reducible refine (rorder_c (.agg #[.slice A1 n1 c1, .bool b1]) (.agg #[.slice A2 n2 c2, .bool b2]) x y _ (HXV.out.below ?_) (HYV.out.below ?_) HL1.out HL2.out).mono ?_); (go_split_ands; with_reducible assumption); (go_split_ands; with_reducible assumption); rintro e W9 ⟨he, hbz⟩; rw [HG2.out] at he; subst he; go_split_ands; have HB9 := Lib.hid (below_to (show Below V.heap.size V _ by assumption) hbz))
    | (go_at_call 47; (with_reducible refine (rsum_c (.agg #[.slice A1 n1 c1, .bool b1]) (.agg #[.slice A2 n2 c2, .bool b2]) x y _ (HXV.out.below ?_) (HYV.out.below ?_) HL1.out HL2.out).mono ?_); (go_split_ands; with_reducible assumption); (go_split_ands; with_reducible assumption); rintro e W9 ⟨u, rfl, hu, hbz⟩; obtain ⟨A3, n3, c3, b3, rfl⟩ := hu.form; have HU3 := Lib.hid hu; clear hu; go_split_ands; have HB9 := Lib.hid (below_to (show Below V.heap.size V _ by assumption) hbz))
    | (go_at_call 25; (with_reducible refine (is_c s1 e1 (.agg #[.slice A3 n3 c3, .bool b3]) (x + y) _ (HU3.out.below ?_) HL3.out H1.out.1 H1.out.2).mono ?_); (first | (with_reducible exact Below.refl _ _) | (with_reducible exact (Below.refl _ _).drew) | (with_reducible exact (Below.refl _ _).alloc (Nat.le_refl _) _) | (with_reducible exact ((Below.refl _ _).alloc (Nat.le_refl _) _).drew)); rintro e W9 ⟨rfl, hbz⟩; go_split_ands; have HB9 := Lib.hid (below_to (show Below V.heap.size V _ by assumption) hbz))
    | (go_at_call 23; (with_reducible refine (rof_c ⟨#[45, 49]⟩ (-1) _ num_m1).mono ?_); rintro e W9 ⟨u, rfl, hu, hbz⟩; obtain ⟨A4, n4, c4, b4, rfl⟩ := hu.form; have HU4 := Lib.hid hu; clear hu; go_split_ands; have HB9 := Lib.hid (below_to (show Below V.heap.size V _ by assumption) hbz))
    | (go_at_call 26; (with_reducible refine (product_c (.agg #[.slice A2 n2 c2, .bool b2]) (.agg #[.slice A4 n4 c4, .bool b4]) y (-1) _ (HYV.out.below ?_) (HU4.out.below ?_) HL2.out HLM.out).mono ?_); (go_split_ands; with_reducible assumption); (first | (with_reducible exact Below.refl _ _) | (with_reducible exact (Below.refl _ _).drew) | (with_reducible exact (Below.refl _ _).alloc (Nat.le_refl _) _) | (with_reducible exact ((Below.refl _ _).alloc (Nat.le_refl _) _).drew)); rintro e W9 ⟨u, rfl, hu, hbz⟩; obtain ⟨A5, n5, c5, b5, rfl⟩ := hu.form; have HU5 := Lib.hid hu; clear hu; go_split_ands; have HB9 := Lib.hid (below_to (show Below V.heap.size V _ by assumption) hbz))
    | (go_at_call 47; (with_reducible refine (rsum_c (.agg #[.slice A1 n1 c1, .bool b1]) (.agg #[.slice A5 n5 c5, .bool b5]) x (y * -1) _ (HXV.out.below ?_) (HU5.out.below ?_) HL1.out HL5.out).mono ?_); (go_split_ands; with_reducible assumption); (first | (with_reducible exact Below.refl _ _) | (with_reducible exact (Below.refl _ _).drew) | (with_reducible exact (Below.refl _ _).alloc (Nat.le_refl _) _) | (with_reducible exact ((Below.refl _ _).alloc (Nat.le_refl _) _).drew)); rintro e W9 ⟨u, rfl, hu, hbz⟩; obtain ⟨A6, n6, c6, b6, rfl⟩ := hu.form; have HU6 := Lib.hid hu; clear hu; go_split_ands; have HB9 := Lib.hid (below_to (show Below V.heap.size V _ by assumption) hbz))
    | (go_at_call 25; (with_reducible refine (is_c s2 e2 (.agg #[.slice A6 n6 c6, .bool b6]) (x + y * -1) _ (HU6.out.below ?_) HL6.out HE2.out.1 HE2.out.2).mono ?_); (first | (with_reducible exact Below.refl _ _) | (with_reducible exact (Below.refl _ _).drew) | (with_reducible exact (Below.refl _ _).alloc (Nat.le_refl _) _) | (with_reducible exact ((Below.refl _ _).alloc (Nat.le_refl _) _).drew)); rintro e W9 ⟨rfl, hbz⟩; go_split_ands; have HB9 := Lib.hid (below_to (show Below V.heap.size V _ by assumption) hbz)))
  go_wp2_with fail
  go_ret
  exact ⟨rfl, below_then' HBV.out HB9.out⟩

theorem numberSums_c (hsan : San) (a b : ByteArray) (w : World) (ht : Tabs w) : Calls Tryz.prog 10 #[.string a, .string b] w fun e w' => e = .returned (.bool true) ∧ Below w.heap.size w w' := by
  obtain ⟨sa, ha⟩ : ∃ s, SB3 s a := ⟨_, rfl⟩
  obtain ⟨sb, hb⟩ : ∃ s, SB3 s b := ⟨_, rfl⟩
  by_cases hs : (sa && sb) = true
  · obtain ⟨rfl, rfl⟩ : sa = true ∧ sb = true := by simpa using hs
    obtain ⟨va, h1⟩ := vb_ex a
    obtain ⟨vb, h2⟩ := vb_ex b
    by_cases hv : (va && vb) = true
    · obtain ⟨rfl, rfl⟩ : va = true ∧ vb = true := by simpa using hv
      obtain ⟨x, hx⟩ := h1.1 rfl
      obtain ⟨y, hy⟩ := h2.1 rfl
      exact sums_ok hsan a b w ht x y ha hb hx hy
    · exact sums_bad hsan a b w ht va vb ha hb h1 h2 (by simpa using hv)
  · exact sums_long hsan a b w ht sa sb ha hb (by simpa using hs)

end Go.Proofs.YtbjgpbdkofadiaaGreatDoor
