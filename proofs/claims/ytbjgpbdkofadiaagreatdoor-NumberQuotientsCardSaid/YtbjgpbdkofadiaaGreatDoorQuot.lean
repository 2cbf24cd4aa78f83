/- The law NumberQuotients. -/
import Derived.Test.YtbjgpbdkofadiaaGreatDoorRefR
import Derived.Test.YtbjgpbdkofadiaaGreatDoorRefP
import Derived.Deep.DrawnRows
namespace Go.Proofs.YtbjgpbdkofadiaaGreatDoor
set_option linter.unusedVariables false
set_option linter.unusedSimpArgs false
open Go.RowKit Go.Shelf Go.Proofs
attribute [local go_sem ↓] Go.wp_at_zero Go.wp_at_succ

theorem div_bad {S T : ByteArray} {Q R : Int → Int → Int} {w w' : World} {e : Ending} (h : DivA S T Q R w e w') (hn : ¬ ((∃ x, NumL S.data.toList x) ∧ ∃ y, NumL T.data.toList y)) : e = .returned (.tuple #[.string ⟨#[]⟩, .string ⟨#[]⟩, .int .i64 1]) ∧ Below w.heap.size w w' := by
  obtain ⟨h, hb⟩ := h
  rcases h with ⟨x', y', hx', hy', rfl⟩ | ⟨_, rfl⟩
  · exact absurd ⟨⟨x', hx'⟩, y', hy'⟩ hn
  · exact ⟨rfl, hb⟩
theorem quo_bad (S T : ByteArray) (w : World) (ht : Tabs w) (hn : ¬ ((∃ x, NumL S.data.toList x) ∧ ∃ y, NumL T.data.toList y)) : Calls Tryz.prog 27 #[.string S, .string T] w fun e w' => e = .returned (.tuple #[.string ⟨#[]⟩, .string ⟨#[]⟩, .int .i64 1]) ∧ Below w.heap.size w w' :=
  (numQuo_c S T w ht).mono fun _ _ h => div_bad h hn
theorem floor_bad (S T : ByteArray) (w : World) (ht : Tabs w) (hn : ¬ ((∃ x, NumL S.data.toList x) ∧ ∃ y, NumL T.data.toList y)) : Calls Tryz.prog 28 #[.string S, .string T] w fun e w' => e = .returned (.tuple #[.string ⟨#[]⟩, .string ⟨#[]⟩, .int .i64 1]) ∧ Below w.heap.size w w' :=
  (numFloor_c S T w ht).mono fun _ _ h => div_bad h hn
set_option maxRecDepth 100000 in
set_option maxHeartbeats 8000000 in
theorem quot_long (hsan : San) (a b : ByteArray) (w : World) (ht : Tabs w) (sa sb : Bool) (ha : SB3 sa a) (hb : SB3 sb b) (hn : (sa && sb) = false) :
    Calls Tryz.prog 4 #[.string a, .string b] w fun e w' => e = .returned (.bool true) ∧ Below w.heap.size w w' := by
  have HT := Lib.hid ht
  have HB : Hid (Below w.heap.size w w) := Below.refl _ _
  have HS : Hid (∀ w : World, Tabs w → Calls Tryz.prog 18 #[] w fun e w' => e = .returned (.bool true) ∧ Below w.heap.size w w') := hsan
  have SA := Lib.hid ha; have SB := Lib.hid hb
  clear ha hb hsan ht
  cases sa
  · clear hn
    go_enter Tryz.func4, Tryz.ntmps4
    go_wp2_with (first
    | (go_at_call 17; (with_reducible refine (short_at a _ _ SA.out).mono ?_); rintro e W ⟨rfl, rfl⟩)
    | (go_at_call 18; (with_reducible refine (HS.out _ (HT.out.below HB.out)).mono ?_); rintro e W ⟨rfl, hbz⟩; have HB := Lib.hid (below_then' HB.out hbz); clear hbz))
    go_ret
    exact ⟨rfl, HB.out⟩
  · obtain rfl : sb = false := by simpa using hn
    clear hn
    go_enter Tryz.func4, Tryz.ntmps4
    go_wp2_with (first
    | (go_at_call 17; (with_reducible refine (short_at a _ _ SA.out).mono ?_); rintro e W ⟨rfl, rfl⟩)
    | (go_at_call 17; (with_reducible refine (short_at b _ _ SB.out).mono ?_); rintro e W ⟨rfl, rfl⟩)
    | (go_at_call 18; (with_reducible refine (HS.out _ (HT.out.below HB.out)).mono ?_); rintro e W ⟨rfl, hbz⟩; have HB := Lib.hid (below_then' HB.out hbz); clear hbz))
    go_ret
    exact ⟨rfl, HB.out⟩

set_option maxRecDepth 100000 in
set_option maxHeartbeats 8000000 in
theorem quot_bad (hsan : San) (a b : ByteArray) (w : World) (ht : Tabs w) (va vb : Bool) (ha : SB3 true a) (hb : SB3 true b) (h1 : VB va a) (h2 : VB vb b) (hn : (va && vb) = false) :
    Calls Tryz.prog 4 #[.string a, .string b] w fun e w' => e = .returned (.bool true) ∧ Below w.heap.size w w' := by
  have HT := Lib.hid ht
  have HB : Hid (Below w.heap.size w w) := Below.refl _ _
  have HS : Hid (∀ w : World, Tabs w → Calls Tryz.prog 18 #[] w fun e w' => e = .returned (.bool true) ∧ Below w.heap.size w w') := hsan
  have SA := Lib.hid ha; have SB := Lib.hid hb; have VA := Lib.hid h1; have VB2 := Lib.hid h2
  have HNV : Hid (¬ ((∃ x, NumL a.data.toList x) ∧ ∃ y, NumL b.data.toList y)) := fun h => by
    have e1 := h1.2 h.1
    have e2 := h2.2 h.2
    rw [e1, e2] at hn
    cases hn
  clear ha hb h1 h2 hsan ht
  cases va
  · clear hn
    go_enter Tryz.func4, Tryz.ntmps4
    go_wp2_with (first
    | (go_at_call 17; (with_reducible refine (short_at a _ _ SA.out).mono ?_); rintro e W ⟨rfl, rfl⟩)
    | (go_at_call 17; (with_reducible refine (short_at b _ _ SB.out).mono ?_); rintro e W ⟨rfl, rfl⟩)
    | (go_at_call 27; (with_reducible refine (quo_bad a b _ (HT.out.below HB.out) HNV.out).mono ?_); rintro e W ⟨rfl, hbz⟩; have HB := Lib.hid (below_then' HB.out hbz); clear hbz)
    | (go_at_call 28; (with_reducible refine (floor_bad a b _ (HT.out.below HB.out) HNV.out).mono ?_); rintro e W ⟨rfl, hbz⟩; have HB := Lib.hid (below_then' HB.out hbz); clear hbz)
    | (go_at_call 21; (with_reducible refine (rvalid_at a _ _ VA.out).mono ?_); rintro e W ⟨rfl, hbz⟩; have HB := Lib.hid (below_then' HB.out hbz); clear hbz)
    | (go_at_call 21; (with_reducible refine (rvalid_at b _ _ VB2.out).mono ?_); rintro e W ⟨rfl, hbz⟩; have HB := Lib.hid (below_then' HB.out hbz); clear hbz)
    | (go_at_call 18; (with_reducible refine (HS.out _ (HT.out.below HB.out)).mono ?_); rintro e W ⟨rfl, hbz⟩; have HB := Lib.hid (below_then' HB.out hbz); clear hbz)
    | (go_at_call 22; (with_reducible refine (refused_c 1 _).mono ?_); rintro e W ⟨rfl, rfl⟩))
    go_ret
    exact ⟨rfl, HB.out⟩
  · obtain rfl : vb = false := by simpa using hn
    clear hn
    go_enter Tryz.func4, Tryz.ntmps4
    go_wp2_with (first
    | (go_at_call 17; (with_reducible refine (short_at a _ _ SA.out).mono ?_); rintro e W ⟨rfl, rfl⟩)
    | (go_at_call 17; (with_reducible refine (short_at b _ _ SB.out).mono ?_); rintro e W ⟨rfl, rfl⟩)
    | (go_at_call 27; (with_reducible refine (quo_bad a b _ (HT.out.below HB.out) HNV.out).mono ?_); rintro e W ⟨rfl, hbz⟩; have HB := Lib.hid (below_then' HB.out hbz); clear hbz)
    | (go_at_call 28; (with_reducible refine (floor_bad a b _ (HT.out.below HB.out) HNV.out).mono ?_); rintro e W ⟨rfl, hbz⟩; have HB := Lib.hid (below_then' HB.out hbz); clear hbz)
    | (go_at_call 21; (with_reducible refine (rvalid_at a _ _ VA.out).mono ?_); rintro e W ⟨rfl, hbz⟩; have HB := Lib.hid (below_then' HB.out hbz); clear hbz)
    | (go_at_call 21; (with_reducible refine (rvalid_at b _ _ VB2.out).mono ?_); rintro e W ⟨rfl, hbz⟩; have HB := Lib.hid (below_then' HB.out hbz); clear hbz)
    | (go_at_call 18; (with_reducible refine (HS.out _ (HT.out.below HB.out)).mono ?_); rintro e W ⟨rfl, hbz⟩; have HB := Lib.hid (below_then' HB.out hbz); clear hbz)
    | (go_at_call 22; (with_reducible refine (refused_c 1 _).mono ?_); rintro e W ⟨rfl, rfl⟩))
    go_ret
    exact ⟨rfl, HB.out⟩

set_option maxRecDepth 100000 in
set_option maxHeartbeats 8000000 in
theorem quot_none (hsan : San) (a b : ByteArray) (w : World) (ht : Tabs w) (x : Int) (ha : SB3 true a) (hb : SB3 true b) (h1 : NumL a.data.toList x) (h2 : NumL b.data.toList 0) :
    Calls Tryz.prog 4 #[.string a, .string b] w fun e w' => e = .returned (.bool true) ∧ Below w.heap.size w w' := by
  have HT := Lib.hid ht
  have HB : Hid (Below w.heap.size w w) := Below.refl _ _
  have HS : Hid (∀ w : World, Tabs w → Calls Tryz.prog 18 #[] w fun e w' => e = .returned (.bool true) ∧ Below w.heap.size w w') := hsan
  have SA := Lib.hid ha; have SB := Lib.hid hb; have VA : Hid (VB true a) := ⟨fun _ => ⟨x, h1⟩, fun _ => rfl⟩; have VB2 : Hid (VB true b) := ⟨fun _ => ⟨0, h2⟩, fun _ => rfl⟩
  have HNA := Lib.hid h1; have HNB := Lib.hid h2
  have hz : (b.toList == [48]) = true := by rw [num_is_zero h2]; rfl
  clear ha hb h1 h2 hsan ht
  go_enter Tryz.func4, Tryz.ntmps4
  go_wp2_with (first
  | (go_at_call 17; (with_reducible refine (short_at a _ _ SA.out).mono ?_); rintro e W ⟨rfl, rfl⟩)
  | (go_at_call 17; (with_reducible refine (short_at b _ _ SB.out).mono ?_); rintro e W ⟨rfl, rfl⟩)
  | (go_at_call 27; (with_reducible refine (law_quo_none a b x _ HNA.out HNB.out (HT.out.below HB.out)).mono ?_); rintro e W ⟨rfl, hbz⟩; have HB := Lib.hid (below_then' HB.out hbz); clear hbz)
  | (go_at_call 28; (with_reducible refine (law_floor_none a b x _ HNA.out HNB.out (HT.out.below HB.out)).mono ?_); rintro e W ⟨rfl, hbz⟩; have HB := Lib.hid (below_then' HB.out hbz); clear hbz)
  | (go_at_call 21; (with_reducible refine (rvalid_at a _ _ VA.out).mono ?_); rintro e W ⟨rfl, hbz⟩; have HB := Lib.hid (below_then' HB.out hbz); clear hbz)
  | (go_at_call 21; (with_reducible refine (rvalid_at b _ _ VB2.out).mono ?_); rintro e W ⟨rfl, hbz⟩; have HB := Lib.hid (below_then' HB.out hbz); clear hbz)
  | (go_at_call 18; (with_reducible refine (HS.out _ (HT.out.below HB.out)).mono ?_); rintro e W ⟨rfl, hbz⟩; have HB := Lib.hid (below_then' HB.out hbz); clear hbz)
  | (go_at_call 22; (with_reducible refine (refused_c 5 _).mono ?_); rintro e W ⟨rfl, rfl⟩))
  go_ret
  exact ⟨rfl, HB.out⟩

set_option maxRecDepth 100000 in
set_option maxHeartbeats 8000000 in
theorem quot_ok (hsan : San) (a b : ByteArray) (w : World) (ht : Tabs w) (x y : Int) (hy0 : y ≠ 0) (hf : (x.fdiv y).natAbs < 10 ^ 200) (ha : SB3 true a) (hb : SB3 true b) (h1 : NumL a.data.toList x) (h2 : NumL b.data.toList y) :
    Calls Tryz.prog 4 #[.string a, .string b] w fun e w' => e = .returned (.bool true) ∧ Below w.heap.size w w' := by
  have HT := Lib.hid ht
  have HB : Hid (Below w.heap.size w w) := Below.refl _ _
  have HS : Hid (∀ w : World, Tabs w → Calls Tryz.prog 18 #[] w fun e w' => e = .returned (.bool true) ∧ Below w.heap.size w w') := hsan
  have SA := Lib.hid ha; have SB := Lib.hid hb; have VA : Hid (VB true a) := ⟨fun _ => ⟨x, h1⟩, fun _ => rfl⟩; have VB2 : Hid (VB true b) := ⟨fun _ => ⟨y, h2⟩, fun _ => rfl⟩
  have HNA := Lib.hid h1; have HNB := Lib.hid h2
  have HLX := Lib.hid (len_fit h1.2); have HLY := Lib.hid (len_fit h2.2)
  have HY0 := Lib.hid hy0
  have hz : (b.toList == [48]) = false := by rw [num_is_zero h2]; simpa using hy0
  have HL1 : Hid ((dg 10 x.natAbs).length ≤ 1000000) := Nat.le_trans HLX.out (by decide)
  have HL2 : Hid ((dg 10 y.natAbs).length ≤ 999999) := Nat.le_trans HLY.out (by decide)
  have HK1 : Hid (ern (x.tdiv y) = 0) := ern_fit (tdiv_fit h1.2)
  have HK2 : Hid (ern (x.tmod y) = 0) := ern_fit (tmod_fit h1.2)
  have HK4 : Hid (ern (x.fmod y) = 0) := ern_fit (fmod_fit hy0 h2.2)
  have HM1 : Hid ((dg 10 (x.tdiv y).natAbs).length ≤ 1000000) := Nat.le_trans (len_fit (tdiv_fit h1.2)) (by decide)
  have HM2 : Hid ((dg 10 (x.tmod y).natAbs).length ≤ 1000000) := Nat.le_trans (len_fit (tmod_fit h1.2)) (by decide)
  have HM4 : Hid ((dg 10 (x.fmod y).natAbs).length ≤ 1000000) := Nat.le_trans (len_fit (fmod_fit hy0 h2.2)) (by decide)
  have HF := Lib.hid hf
  have HK3 : Hid (ern (x.fdiv y) = 0) := ern_fit hf
  have HM3 : Hid ((dg 10 (x.fdiv y).natAbs).length ≤ 1000000) := Nat.le_trans (len_fit hf) (by decide)
  have HFT : Hid (decide ((dg 10 (x.fdiv y).natAbs).length ≤ 200) = true) := decide_eq_true ((fits_len _).2 hf)
  clear ha hb h1 h2 hsan ht hy0
  obtain ⟨s1, hs1⟩ : ∃ s, txt (x.tdiv y) = s := ⟨_, rfl⟩
  obtain ⟨s2, hs2⟩ : ∃ s, txt (x.tmod y) = s := ⟨_, rfl⟩
  obtain ⟨s3, hs3⟩ : ∃ s, txt (x.fdiv y) = s := ⟨_, rfl⟩
  obtain ⟨s4, hs4⟩ : ∃ s, txt (x.fmod y) = s := ⟨_, rfl⟩
  have H1 := Lib.hid hs1; have H2 := Lib.hid hs2; have H3 := Lib.hid hs3; have H4 := Lib.hid hs4
  clear hs1 hs2 hs3 hs4
  go_enter Tryz.func4, Tryz.ntmps4
  go_upto_region 14 with (first
  | (go_at_call 17; (with_reducible refine (short_at a _ _ SA.out).mono ?_); rintro e W ⟨rfl, rfl⟩)
  | (go_at_call 17; (with_reducible refine (short_at b _ _ SB.out).mono ?_); rintro e W ⟨rfl, rfl⟩)
  | (go_at_call 27; (with_reducible refine (law_quo a b x y s1 s2 _ HNA.out HNB.out HY0.out H1.out H2.out (HT.out.below HB.out)).mono ?_); rintro e W ⟨rfl, hbz⟩; have HB := Lib.hid (below_then' HB.out hbz); clear hbz)
  | (go_at_call 28; (with_reducible refine (law_floor a b x y s3 s4 _ HNA.out HNB.out HY0.out HF.out H3.out H4.out (HT.out.below HB.out)).mono ?_); rintro e W ⟨rfl, hbz⟩; have HB := Lib.hid (below_then' HB.out hbz); clear hbz)
  | (go_at_call 21; (with_reducible refine (rvalid_at a _ _ VA.out).mono ?_); rintro e W ⟨rfl, hbz⟩; have HB := Lib.hid (below_then' HB.out hbz); clear hbz)
  | (go_at_call 21; (with_reducible refine (rvalid_at b _ _ VB2.out).mono ?_); rintro e W ⟨rfl, hbz⟩; have HB := Lib.hid (below_then' HB.out hbz); clear hbz)
  | (go_at_call 23; (with_reducible refine (rof_c a x _ HNA.out).mono ?_); rintro e W ⟨u, rfl, hu, hbz⟩; obtain ⟨A1, n1, c1, b1, rfl⟩ := hu.form; have HX := Lib.hid hu; have HB := Lib.hid (below_then' HB.out hbz); clear hu hbz)
  | (go_at_call 23; (with_reducible refine (rof_c b y _ HNB.out).mono ?_); rintro e W2 ⟨u, rfl, hu, hbz⟩; obtain ⟨A2, n2, c2, b2, rfl⟩ := hu.form; have HY := Lib.hid hu; have HBY := Lib.hid hbz; clear hu hbz))
  have k0 : Below W.heap.size W (W.alloc (.cells #[.slice A1 n1 c1, .bool b1] 32)) := (Below.refl _ _).alloc (Nat.le_refl _) _
  have k1 := below_then' k0 HBY.out
  have k2 : Below W2.heap.size W2 (W2.alloc (.cells #[.slice A2 n2 c2, .bool b2] 32)) := (Below.refl _ _).alloc (Nat.le_refl _) _
  have hb1 : (W.alloc (.cells #[.slice A1 n1 c1, .bool b1] 32)).heap[W.heap.size]? = some (.cells #[.slice A1 n1 c1, .bool b1] 32 (0, 0)) := heap_alloc_new _ _
  have hb1 := heap_below (heap_below hb1 HBY.out) k2
  have hb2 : (W2.alloc (.cells #[.slice A2 n2 c2, .bool b2] 32)).heap[W2.heap.size]? = some (.cells #[.slice A2 n2 c2, .bool b2] 32 (0, 0)) := heap_alloc_new _ _
  obtain ⟨V, hV⟩ : ∃ V, W2.alloc (.cells #[.slice A2 n2 c2, .bool b2] 32) = V := ⟨_, rfl⟩
  rw [hV] at k2 hb1 hb2 ⊢
  have k3 := below_then' k1 k2
  have HBV := Lib.hid (below_then' HB.out k3)
  have HTV := Lib.hid (HT.out.below HBV.out)
  have HXV := Lib.hid (HX.out.below k3)
  have HYV := Lib.hid (HY.out.below k2)
  obtain ⟨P1, hP1⟩ : ∃ P1, W.heap.size = P1 := ⟨_, rfl⟩
  obtain ⟨P2, hP2⟩ : ∃ P2, W2.heap.size = P2 := ⟨_, rfl⟩
  rw [hP1] at hb1 ⊢
  rw [hP2] at hb2 ⊢
  have c10 := box0 hb1; have c11 := box1 hb1; have c20 := box0 hb2; have c21 := box1 hb2
  clear k0 k1 k2 k3 hV hP1 hP2 hb1 hb2
  go_upto_region 16 with (first
  | (go_at_call 29; (with_reducible refine (rcut_c _ _ x y _ HXV.out HYV.out HY0.out HL1.out HL2.out).mono ?_); rintro e W3 ⟨u, rfl, hu, hbz⟩; obtain ⟨A3, n3, c3, b3, A4, n4, c4, b4, rfl⟩ := hu.form; have HU := Lib.hid hu.parts; have a10 := fun o => keep_cell (hbz.alloc hbz.size o) c10; have a11 := fun o => keep_cell (hbz.alloc hbz.size o) c11; have a20 := fun o => keep_cell (hbz.alloc hbz.size o) c20; have a21 := fun o => keep_cell (hbz.alloc hbz.size o) c21; have HB3 := Lib.hid hbz; clear hu hbz)
  | (go_at_call 30; (with_reducible refine (rdown_c _ _ x y _ (HXV.out.below (below_to HB3.out ((Below.refl _ _).alloc (Nat.le_refl _) _))) (HYV.out.below (below_to HB3.out ((Below.refl _ _).alloc (Nat.le_refl _) _))) HY0.out HL1.out HL2.out).mono ?_); rintro e W4 ⟨u, rfl, hu, hbz⟩; obtain ⟨A5, n5, c5, b5, A6, n6, c6, b6, rfl⟩ := hu.form; have HU2 := Lib.hid hu.parts; have HB4 := Lib.hid hbz; clear hu hbz))
  have k0 : Below W3.heap.size W3 (W3.alloc (.cells #[.slice A3 n3 c3, .bool b3, .slice A4 n4 c4, .bool b4] 42)) := (Below.refl _ _).alloc (Nat.le_refl _) _
  have hb3 : (W3.alloc (.cells #[.slice A3 n3 c3, .bool b3, .slice A4 n4 c4, .bool b4] 42)).heap[W3.heap.size]? = some (.cells #[.slice A3 n3 c3, .bool b3, .slice A4 n4 c4, .bool b4] 42 (0, 0)) := heap_alloc_new _ _
  have k1 : Below W4.heap.size W4 (W4.alloc (.cells #[.slice A5 n5 c5, .bool b5, .slice A6 n6 c6, .bool b6] 42)) := (Below.refl _ _).alloc (Nat.le_refl _) _
  have hb4 : (W4.alloc (.cells #[.slice A5 n5 c5, .bool b5, .slice A6 n6 c6, .bool b6] 42)).heap[W4.heap.size]? = some (.cells #[.slice A5 n5 c5, .bool b5, .slice A6 n6 c6, .bool b6] 42 (0, 0)) := heap_alloc_new _ _
  have hb3 := heap_below (heap_below hb3 HB4.out) k1
  have k2 := below_then' (below_then' k0 HB4.out) k1
  obtain ⟨V2, hV2⟩ : ∃ V2, W4.alloc (.cells #[.slice A5 n5 c5, .bool b5, .slice A6 n6 c6, .bool b6] 42) = V2 := ⟨_, rfl⟩
  rw [hV2] at k1 k2 hb3 hb4 ⊢
  have HQ1 := Lib.hid (HU.out.1.below k2); have HQ2 := Lib.hid (HU.out.2.below k2); have HQ3 := Lib.hid (HU2.out.1.below k1); have HQ4 := Lib.hid (HU2.out.2.below k1)
  have HBV2 := Lib.hid (below_then' HBV.out (below_then' HB3.out k2))
  have HTV2 := Lib.hid (HT.out.below HBV2.out)
  obtain ⟨P3, hP3⟩ : ∃ P3, W3.heap.size = P3 := ⟨_, rfl⟩
  obtain ⟨P4, hP4⟩ : ∃ P4, W4.heap.size = P4 := ⟨_, rfl⟩
  rw [hP3] at hb3 ⊢
  rw [hP4] at hb4 ⊢
  have d0 := cell_of_heap hb3 0; have d1 := cell_of_heap hb3 1; have d2 := cell_of_heap hb3 2; have d3 := cell_of_heap hb3 3
  have e0 := cell_of_heap hb4 0; have e1 := cell_of_heap hb4 1; have e2 := cell_of_heap hb4 2; have e3 := cell_of_heap hb4 3
  simp at d0 d1 d2 d3 e0 e1 e2 e3
  have HBC : Hid (Below V2.heap.size V2 V2) := Below.refl _ _
  clear k0 k1 k2 hV2 hP3 hP4 hb3 hb4 a10 a11 a20 a21 c10 c11 c20 c21 HB HB3 HB4 HBY HU HU2
  go_wp2_with (first
  | (go_at_call 31; (with_reducible refine (rfits_c _ (x.fdiv y) _ HQ3.out).mono ?_); rintro e W9 ⟨he, hbz⟩; rw [HFT.out] at he; subst he; have d0 := keep_cell hbz d0; have d1 := keep_cell hbz d1; have d2 := keep_cell hbz d2; have d3 := keep_cell hbz d3; have e0 := keep_cell hbz e0; have e1 := keep_cell hbz e1; have e2 := keep_cell hbz e2; have e3 := keep_cell hbz e3; have HBC := Lib.hid (below_then' HBC.out hbz); clear hbz)
  | (go_at_call 18; (with_reducible refine (HS.out _ (HTV2.out.below HBC.out)).mono ?_); rintro e W9 ⟨rfl, hbz⟩; have d0 := keep_cell hbz d0; have d1 := keep_cell hbz d1; have d2 := keep_cell hbz d2; have d3 := keep_cell hbz d3; have e0 := keep_cell hbz e0; have e1 := keep_cell hbz e1; have e2 := keep_cell hbz e2; have e3 := keep_cell hbz e3; have HBC := Lib.hid (below_then' HBC.out hbz); clear hbz)
  | (go_at_call 25; (with_reducible refine (is_c s1 0 (.agg #[.slice A3 n3 c3, .bool b3]) (x.tdiv y) _ (HQ1.out.below HBC.out) HM1.out H1.out HK1.out).mono ?_); rintro e W9 ⟨rfl, hbz⟩; have d0 := keep_cell hbz d0; have d1 := keep_cell hbz d1; have d2 := keep_cell hbz d2; have d3 := keep_cell hbz d3; have e0 := keep_cell hbz e0; have e1 := keep_cell hbz e1; have e2 := keep_cell hbz e2; have e3 := keep_cell hbz e3; have HBC := Lib.hid (below_then' HBC.out hbz); clear hbz)
  | (go_at_call 25; (with_reducible refine (is_c s2 0 (.agg #[.slice A4 n4 c4, .bool b4]) (x.tmod y) _ (HQ2.out.below HBC.out) HM2.out H2.out HK2.out).mono ?_); rintro e W9 ⟨rfl, hbz⟩; have d0 := keep_cell hbz d0; have d1 := keep_cell hbz d1; have d2 := keep_cell hbz d2; have d3 := keep_cell hbz d3; have e0 := keep_cell hbz e0; have e1 := keep_cell hbz e1; have e2 := keep_cell hbz e2; have e3 := keep_cell hbz e3; have HBC := Lib.hid (below_then' HBC.out hbz); clear hbz)
  | (go_at_call 25; (with_reducible refine (is_c s3 0 (.agg #[.slice A5 n5 c5, .bool b5]) (x.fdiv y) _ (HQ3.out.below HBC.out) HM3.out H3.out HK3.out).mono ?_); rintro e W9 ⟨rfl, hbz⟩; have d0 := keep_cell hbz d0; have d1 := keep_cell hbz d1; have d2 := keep_cell hbz d2; have d3 := keep_cell hbz d3; have e0 := keep_cell hbz e0; have e1 := keep_cell hbz e1; have e2 := keep_cell hbz e2; have e3 := keep_cell hbz e3; have HBC := Lib.hid (below_then' HBC.out hbz); clear hbz)
  | (go_at_call 25; (with_reducible refine (is_c s4 0 (.agg #[.slice A6 n6 c6, .bool b6]) (x.fmod y) _ (HQ4.out.below HBC.out) HM4.out H4.out HK4.out).mono ?_); rintro e W9 ⟨rfl, hbz⟩; have d0 := keep_cell hbz d0; have d1 := keep_cell hbz d1; have d2 := keep_cell hbz d2; have d3 := keep_cell hbz d3; have e0 := keep_cell hbz e0; have e1 := keep_cell hbz e1; have e2 := keep_cell hbz e2; have e3 := keep_cell hbz e3; have HBC := Lib.hid (below_then' HBC.out hbz); clear hbz))
  go_ret
  exact ⟨rfl, below_then' HBV2.out HBC.out⟩

set_option maxRecDepth 100000 in
set_option maxHeartbeats 8000000 in
theorem quot_big (hsan : San) (a b : ByteArray) (w : World) (ht : Tabs w) (x y : Int) (hy0 : y ≠ 0) (hf : ¬ (x.fdiv y).natAbs < 10 ^ 200) (ha : SB3 true a) (hb : SB3 true b) (h1 : NumL a.data.toList x) (h2 : NumL b.data.toList y) :
    Calls Tryz.prog 4 #[.string a, .string b] w fun e w' => e = .returned (.bool true) ∧ Below w.heap.size w w' := by
  have HT := Lib.hid ht
  have HB : Hid (Below w.heap.size w w) := Below.refl _ _
  have HS : Hid (∀ w : World, Tabs w → Calls Tryz.prog 18 #[] w fun e w' => e = .returned (.bool true) ∧ Below w.heap.size w w') := hsan
  have SA := Lib.hid ha; have SB := Lib.hid hb; have VA : Hid (VB true a) := ⟨fun _ => ⟨x, h1⟩, fun _ => rfl⟩; have VB2 : Hid (VB true b) := ⟨fun _ => ⟨y, h2⟩, fun _ => rfl⟩
  have HNA := Lib.hid h1; have HNB := Lib.hid h2
  have HLX := Lib.hid (len_fit h1.2); have HLY := Lib.hid (len_fit h2.2)
  have HY0 := Lib.hid hy0
  have hz : (b.toList == [48]) = false := by rw [num_is_zero h2]; simpa using hy0
  have HL1 : Hid ((dg 10 x.natAbs).length ≤ 1000000) := Nat.le_trans HLX.out (by decide)
  have HL2 : Hid ((dg 10 y.natAbs).length ≤ 999999) := Nat.le_trans HLY.out (by decide)
  have HK1 : Hid (ern (x.tdiv y) = 0) := ern_fit (tdiv_fit h1.2)
  have HK2 : Hid (ern (x.tmod y) = 0) := ern_fit (tmod_fit h1.2)
  have HK4 : Hid (ern (x.fmod y) = 0) := ern_fit (fmod_fit hy0 h2.2)
  have HM1 : Hid ((dg 10 (x.tdiv y).natAbs).length ≤ 1000000) := Nat.le_trans (len_fit (tdiv_fit h1.2)) (by decide)
  have HM2 : Hid ((dg 10 (x.tmod y).natAbs).length ≤ 1000000) := Nat.le_trans (len_fit (tmod_fit h1.2)) (by decide)
  have HM4 : Hid ((dg 10 (x.fmod y).natAbs).length ≤ 1000000) := Nat.le_trans (len_fit (fmod_fit hy0 h2.2)) (by decide)
  have HF := Lib.hid hf
  have HFT : Hid (decide ((dg 10 (x.fdiv y).natAbs).length ≤ 200) = false) := decide_eq_false fun h => hf ((fits_len _).1 h)
  clear ha hb h1 h2 hsan ht hy0
  obtain ⟨s1, hs1⟩ : ∃ s, txt (x.tdiv y) = s := ⟨_, rfl⟩
  obtain ⟨s2, hs2⟩ : ∃ s, txt (x.tmod y) = s := ⟨_, rfl⟩
  obtain ⟨s3, hs3⟩ : ∃ s, txt (x.fdiv y) = s := ⟨_, rfl⟩
  obtain ⟨s4, hs4⟩ : ∃ s, txt (x.fmod y) = s := ⟨_, rfl⟩
  have H1 := Lib.hid hs1; have H2 := Lib.hid hs2; have H3 := Lib.hid hs3; have H4 := Lib.hid hs4
  clear hs1 hs2 hs3 hs4
  go_enter Tryz.func4, Tryz.ntmps4
  go_upto_region 14 with (first
  | (go_at_call 17; (with_reducible refine (short_at a _ _ SA.out).mono ?_); rintro e W ⟨rfl, rfl⟩)
  | (go_at_call 17; (with_reducible refine (short_at b _ _ SB.out).mono ?_); rintro e W ⟨rfl, rfl⟩)
  | (go_at_call 27; (with_reducible refine (law_quo a b x y s1 s2 _ HNA.out HNB.out HY0.out H1.out H2.out (HT.out.below HB.out)).mono ?_); rintro e W ⟨rfl, hbz⟩; have HB := Lib.hid (below_then' HB.out hbz); clear hbz)
  | (go_at_call 28; (with_reducible refine (law_floor_big a b x y _ HNA.out HNB.out HY0.out HF.out (HT.out.below HB.out)).mono ?_); rintro e W ⟨rfl, hbz⟩; have HB := Lib.hid (below_then' HB.out hbz); clear hbz)
  | (go_at_call 21; (with_reducible refine (rvalid_at a _ _ VA.out).mono ?_); rintro e W ⟨rfl, hbz⟩; have HB := Lib.hid (below_then' HB.out hbz); clear hbz)
  | (go_at_call 21; (with_reducible refine (rvalid_at b _ _ VB2.out).mono ?_); rintro e W ⟨rfl, hbz⟩; have HB := Lib.hid (below_then' HB.out hbz); clear hbz)
  | (go_at_call 23; (with_reducible refine (rof_c a x _ HNA.out).mono ?_); rintro e W ⟨u, rfl, hu, hbz⟩; obtain ⟨A1, n1, c1, b1, rfl⟩ := hu.form; have HX := Lib.hid hu; have HB := Lib.hid (below_then' HB.out hbz); clear hu hbz)
  | (go_at_call 23; (with_reducible refine (rof_c b y _ HNB.out).mono ?_); rintro e W2 ⟨u, rfl, hu, hbz⟩; obtain ⟨A2, n2, c2, b2, rfl⟩ := hu.form; have HY := Lib.hid hu; have HBY := Lib.hid hbz; clear hu hbz))
  have k0 : Below W.heap.size W (W.alloc (.cells #[.slice A1 n1 c1, .bool b1] 32)) := (Below.refl _ _).alloc (Nat.le_refl _) _
  have k1 := below_then' k0 HBY.out
  have k2 : Below W2.heap.size W2 (W2.alloc (.cells #[.slice A2 n2 c2, .bool b2] 32)) := (Below.refl _ _).alloc (Nat.le_refl _) _
  have hb1 : (W.alloc (.cells #[.slice A1 n1 c1, .bool b1] 32)).heap[W.heap.size]? = some (.cells #[.slice A1 n1 c1, .bool b1] 32 (0, 0)) := heap_alloc_new _ _
  have hb1 := heap_below (heap_below hb1 HBY.out) k2
  have hb2 : (W2.alloc (.cells #[.slice A2 n2 c2, .bool b2] 32)).heap[W2.heap.size]? = some (.cells #[.slice A2 n2 c2, .bool b2] 32 (0, 0)) := heap_alloc_new _ _
  obtain ⟨V, hV⟩ : ∃ V, W2.alloc (.cells #[.slice A2 n2 c2, .bool b2] 32) = V := ⟨_, rfl⟩
  rw [hV] at k2 hb1 hb2 ⊢
  have k3 := below_then' k1 k2
  have HBV := Lib.hid (below_then' HB.out k3)
  have HTV := Lib.hid (HT.out.below HBV.out)
  have HXV := Lib.hid (HX.out.below k3)
  have HYV := Lib.hid (HY.out.below k2)
  obtain ⟨P1, hP1⟩ : ∃ P1, W.heap.size = P1 := ⟨_, rfl⟩
  obtain ⟨P2, hP2⟩ : ∃ P2, W2.heap.size = P2 := ⟨_, rfl⟩
  rw [hP1] at hb1 ⊢
  rw [hP2] at hb2 ⊢
  have c10 := box0 hb1; have c11 := box1 hb1; have c20 := box0 hb2; have c21 := box1 hb2
  clear k0 k1 k2 k3 hV hP1 hP2 hb1 hb2
  go_upto_region 16 with (first
  | (go_at_call 29; (with_reducible refine (rcut_c _ _ x y _ HXV.out HYV.out HY0.out HL1.out HL2.out).mono ?_); rintro e W3 ⟨u, rfl, hu, hbz⟩; obtain ⟨A3, n3, c3, b3, A4, n4, c4, b4, rfl⟩ := hu.form; have HU := Lib.hid hu.parts; have a10 := fun o => keep_cell (hbz.alloc hbz.size o) c10; have a11 := fun o => keep_cell (hbz.alloc hbz.size o) c11; have a20 := fun o => keep_cell (hbz.alloc hbz.size o) c20; have a21 := fun o => keep_cell (hbz.alloc hbz.size o) c21; have HB3 := Lib.hid hbz; clear hu hbz)
  | (go_at_call 30; (with_reducible refine (rdown_c _ _ x y _ (HXV.out.below (below_to HB3.out ((Below.refl _ _).alloc (Nat.le_refl _) _))) (HYV.out.below (below_to HB3.out ((Below.refl _ _).alloc (Nat.le_refl _) _))) HY0.out HL1.out HL2.out).mono ?_); rintro e W4 ⟨u, rfl, hu, hbz⟩; obtain ⟨A5, n5, c5, b5, A6, n6, c6, b6, rfl⟩ := hu.form; have HU2 := Lib.hid hu.parts; have HB4 := Lib.hid hbz; clear hu hbz))
  have k0 : Below W3.heap.size W3 (W3.alloc (.cells #[.slice A3 n3 c3, .bool b3, .slice A4 n4 c4, .bool b4] 42)) := (Below.refl _ _).alloc (Nat.le_refl _) _
  have hb3 : (W3.alloc (.cells #[.slice A3 n3 c3, .bool b3, .slice A4 n4 c4, .bool b4] 42)).heap[W3.heap.size]? = some (.cells #[.slice A3 n3 c3, .bool b3, .slice A4 n4 c4, .bool b4] 42 (0, 0)) := heap_alloc_new _ _
  have k1 : Below W4.heap.size W4 (W4.alloc (.cells #[.slice A5 n5 c5, .bool b5, .slice A6 n6 c6, .bool b6] 42)) := (Below.refl _ _).alloc (Nat.le_refl _) _
  have hb4 : (W4.alloc (.cells #[.slice A5 n5 c5, .bool b5, .slice A6 n6 c6, .bool b6] 42)).heap[W4.heap.size]? = some (.cells #[.slice A5 n5 c5, .bool b5, .slice A6 n6 c6, .bool b6] 42 (0, 0)) := heap_alloc_new _ _
  have hb3 := heap_below (heap_below hb3 HB4.out) k1
  have k2 := below_then' (below_then' k0 HB4.out) k1
  obtain ⟨V2, hV2⟩ : ∃ V2, W4.alloc (.cells #[.slice A5 n5 c5, .bool b5, .slice A6 n6 c6, .bool b6] 42) = V2 := ⟨_, rfl⟩
  rw [hV2] at k1 k2 hb3 hb4 ⊢
  have HQ1 := Lib.hid (HU.out.1.below k2); have HQ2 := Lib.hid (HU.out.2.below k2); have HQ3 := Lib.hid (HU2.out.1.below k1); have HQ4 := Lib.hid (HU2.out.2.below k1)
  have HBV2 := Lib.hid (below_then' HBV.out (below_then' HB3.out k2))
  have HTV2 := Lib.hid (HT.out.below HBV2.out)
  obtain ⟨P3, hP3⟩ : ∃ P3, W3.heap.size = P3 := ⟨_, rfl⟩
  obtain ⟨P4, hP4⟩ : ∃ P4, W4.heap.size = P4 := ⟨_, rfl⟩
  rw [hP3] at hb3 ⊢
  rw [hP4] at hb4 ⊢
  have d0 := cell_of_heap hb3 0; have d1 := cell_of_heap hb3 1; have d2 := cell_of_heap hb3 2; have d3 := cell_of_heap hb3 3
  have e0 := cell_of_heap hb4 0; have e1 := cell_of_heap hb4 1; have e2 := cell_of_heap hb4 2; have e3 := cell_of_heap hb4 3
  simp at d0 d1 d2 d3 e0 e1 e2 e3
  have HBC : Hid (Below V2.heap.size V2 V2) := Below.refl _ _
  clear k0 k1 k2 hV2 hP3 hP4 hb3 hb4 a10 a11 a20 a21 c10 c11 c20 c21 HB HB3 HB4 HBY HU HU2
  go_wp2_with (first
  | (go_at_call 31; (with_reducible refine (rfits_c _ (x.fdiv y) _ HQ3.out).mono ?_); rintro e W9 ⟨he, hbz⟩; rw [HFT.out] at he; subst he; have d0 := keep_cell hbz d0; have d1 := keep_cell hbz d1; have d2 := keep_cell hbz d2; have d3 := keep_cell hbz d3; have e0 := keep_cell hbz e0; have e1 := keep_cell hbz e1; have e2 := keep_cell hbz e2; have e3 := keep_cell hbz e3; have HBC := Lib.hid (below_then' HBC.out hbz); clear hbz)
  | (go_at_call 18; (with_reducible refine (HS.out _ (HTV2.out.below HBC.out)).mono ?_); rintro e W9 ⟨rfl, hbz⟩; have d0 := keep_cell hbz d0; have d1 := keep_cell hbz d1; have d2 := keep_cell hbz d2; have d3 := keep_cell hbz d3; have e0 := keep_cell hbz e0; have e1 := keep_cell hbz e1; have e2 := keep_cell hbz e2; have e3 := keep_cell hbz e3; have HBC := Lib.hid (below_then' HBC.out hbz); clear hbz)
  | (go_at_call 22; (with_reducible refine (refused_c 3 _).mono ?_); rintro e W ⟨rfl, rfl⟩)
  | (go_at_call 25; (with_reducible refine (is_c s1 0 (.agg #[.slice A3 n3 c3, .bool b3]) (x.tdiv y) _ (HQ1.out.below HBC.out) HM1.out H1.out HK1.out).mono ?_); rintro e W9 ⟨rfl, hbz⟩; have d0 := keep_cell hbz d0; have d1 := keep_cell hbz d1; have d2 := keep_cell hbz d2; have d3 := keep_cell hbz d3; have e0 := keep_cell hbz e0; have e1 := keep_cell hbz e1; have e2 := keep_cell hbz e2; have e3 := keep_cell hbz e3; have HBC := Lib.hid (below_then' HBC.out hbz); clear hbz)
  | (go_at_call 25; (with_reducible refine (is_c s2 0 (.agg #[.slice A4 n4 c4, .bool b4]) (x.tmod y) _ (HQ2.out.below HBC.out) HM2.out H2.out HK2.out).mono ?_); rintro e W9 ⟨rfl, hbz⟩; have d0 := keep_cell hbz d0; have d1 := keep_cell hbz d1; have d2 := keep_cell hbz d2; have d3 := keep_cell hbz d3; have e0 := keep_cell hbz e0; have e1 := keep_cell hbz e1; have e2 := keep_cell hbz e2; have e3 := keep_cell hbz e3; have HBC := Lib.hid (below_then' HBC.out hbz); clear hbz))
  go_ret
  exact ⟨rfl, below_then' HBV2.out HBC.out⟩

theorem numberQuotients_c (hsan : San) (a b : ByteArray) (w : World) (ht : Tabs w) : Calls Tryz.prog 4 #[.string a, .string b] w fun e w' => e = .returned (.bool true) ∧ Below w.heap.size w w' := by
  obtain ⟨sa, ha⟩ : ∃ s, SB3 s a := ⟨_, rfl⟩
  obtain ⟨sb, hb⟩ : ∃ s, SB3 s b := ⟨_, rfl⟩
  by_cases hs : (sa && sb) = true
  · obtain ⟨rfl, rfl⟩ : sa = true ∧ sb = true := by simpa using hs
    obtain ⟨va, h1⟩ := vb_ex a
    obtain ⟨vb, h2⟩ := vb_ex b
    by_cases hv : (va && vb) = true
    · obtain ⟨rfl, rfl⟩ : va = true ∧ vb = true := by simpa using hv
      obtain ⟨x, hx⟩ := h1.1 rfl
      obtain ⟨y, hy⟩ := h2.1 rfl
      by_cases hy0 : y = 0
      · subst hy0; exact quot_none hsan a b w ht x ha hb hx hy
      · by_cases hf : (x.fdiv y).natAbs < 10 ^ 200
        · exact quot_ok hsan a b w ht x y hy0 hf ha hb hx hy
        · exact quot_big hsan a b w ht x y hy0 hf ha hb hx hy
    · exact quot_bad hsan a b w ht va vb ha hb h1 h2 (by simpa using hv)
  · exact quot_long hsan a b w ht sa sb ha hb (by simpa using hs)

end Go.Proofs.YtbjgpbdkofadiaaGreatDoor
