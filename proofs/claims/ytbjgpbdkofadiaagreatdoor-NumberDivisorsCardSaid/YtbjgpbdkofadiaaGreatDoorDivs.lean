/- The law NumberDivisors. -/
import Derived.Test.YtbjgpbdkofadiaaGreatDoorRefU
import Derived.Test.YtbjgpbdkofadiaaGreatDoorRefT
import Derived.Test.YtbjgpbdkofadiaaGreatDoorM6
import Derived.Deep.DrawnRows
namespace Go.Proofs.YtbjgpbdkofadiaaGreatDoor
set_option linter.unusedVariables false
set_option linter.unusedSimpArgs false
open Go.RowKit Go.Shelf Go.Proofs
attribute [local go_sem ↓] Go.wp_at_zero Go.wp_at_succ

theorem root_bad (S : ByteArray) (w : World) (ht : Tabs w) (hn : ¬ ∃ x, NumL S.data.toList x) : Calls Tryz.prog 33 #[.string S] w fun e w' => e = .returned (.tuple #[.string ⟨#[]⟩, .int .i64 1]) ∧ Below w.heap.size w w' :=
  (numRoot_c S w ht).mono fun _ _ h => un_bad h hn
theorem gcd_bad (S T : ByteArray) (w : World) (ht : Tabs w) (hn : ¬ ((∃ x, NumL S.data.toList x) ∧ ∃ y, NumL T.data.toList y)) : Calls Tryz.prog 32 #[.string S, .string T] w fun e w' => e = .returned (.tuple #[.string ⟨#[]⟩, .string ⟨#[]⟩, .string ⟨#[]⟩, .int .i64 1]) ∧ Below w.heap.size w w' := by
  refine (numGcd_g S T w ht ?_).mono ?_
  · intro x' y' hx' hy' W v1 v2 h1 h2
    exact divisor_c v1 v2 x' y' W h1 h2 hx'.2 hy'.2
  · rintro e w' ⟨⟨x', y', hx', hy', rfl⟩ | ⟨-, rfl⟩, hb⟩
    · exact absurd ⟨⟨x', hx'⟩, y', hy'⟩ hn
    · exact ⟨rfl, hb⟩
/-- A new box of three integers. -/
theorem bz_new {V : World} {n c n' c' n2 c2 : Nat} {A A' A2 : Option Addr} {b b' b2 : Bool} {x y z : Int} (t : TypeId) (h : Bz V (.agg #[.slice A n c, .bool b, .slice A' n' c', .bool b', .slice A2 n2 c2, .bool b2]) x y z) :
    ∃ F, V.alloc (.cells #[.slice A n c, .bool b, .slice A' n' c', .bool b', .slice A2 n2 c2, .bool b2] t) = F ∧ F.heap[V.heap.size]? = some (.cells #[.slice A n c, .bool b, .slice A' n' c', .bool b', .slice A2 n2 c2, .bool b2] t (0, 0))
      ∧ Bz F (.agg #[.slice A n c, .bool b, .slice A' n' c', .bool b', .slice A2 n2 c2, .bool b2]) x y z ∧ (∀ k w0, k ≤ V.heap.size → Below k w0 V → Below k w0 F) := by
  have hb : Below V.heap.size V (V.alloc (.cells #[.slice A n c, .bool b, .slice A' n' c', .bool b', .slice A2 n2 c2, .bool b2] t)) := (Below.refl _ _).alloc (Nat.le_refl _) _
  obtain ⟨p, b1, q, c1, r, d1, e, h1, h2, h3⟩ := h
  exact ⟨_, rfl, heap_alloc_new _ _, ⟨p, b1, q, c1, r, d1, e, h1.below hb, h2.below hb, h3.below hb⟩, fun k w0 hk hb => hb.alloc hk _⟩
theorem Bz.parts {w : World} {p q r : Value} {b c d : Bool} {x y z : Int} (h : Bz w (.agg #[p, .bool b, q, .bool c, r, .bool d]) x y z) : Ri w (.agg #[p, .bool b]) x ∧ Ri w (.agg #[q, .bool c]) y ∧ Ri w (.agg #[r, .bool d]) z := by
  obtain ⟨p', b', q', c', r', d', e, h1, h2, h3⟩ := h
  simp at e
  obtain ⟨rfl, rfl, rfl, rfl, rfl, rfl⟩ := e
  exact ⟨h1, h2, h3⟩
theorem Bz.form {w : World} {v : Value} {x y z : Int} (h : Bz w v x y z) : ∃ A n c b A' n' c' b' A2 n2 c2 b2, v = .agg #[.slice A n c, .bool b, .slice A' n' c', .bool b', .slice A2 n2 c2, .bool b2] := by
  obtain ⟨p, b, q, c, r, d, rfl, h1, h2, h3⟩ := h
  obtain ⟨A, n, k, b1, e1⟩ := h1.form
  obtain ⟨A', n', k', b1', e2⟩ := h2.form
  obtain ⟨A2, n2, k2, b2', e3⟩ := h3.form
  simp at e1 e2 e3
  exact ⟨A, n, k, b, A', n', k', c, A2, n2, k2, d, by rw [e1.1, e2.1, e3.1]⟩

set_option maxRecDepth 100000 in
set_option maxHeartbeats 8000000 in
theorem divs_long (hsan : San) (a b : ByteArray) (w : World) (ht : Tabs w) (sa sb : Bool) (ha : SB3 sa a) (hb : SB3 sb b) (hn : (sa && sb) = false) :
    Calls Tryz.prog 5 #[.string a, .string b] w fun e w' => e = .returned (.bool true) ∧ Below w.heap.size w w' := by
  have HT := Lib.hid ht
  have HB : Hid (Below w.heap.size w w) := Below.refl _ _
  have HS : Hid (∀ w : World, Tabs w → Calls Tryz.prog 18 #[] w fun e w' => e = .returned (.bool true) ∧ Below w.heap.size w w') := hsan
  have SA := Lib.hid ha; have SB := Lib.hid hb
  clear ha hb hsan ht
  cases sa
  · clear hn
    go_enter Tryz.func5, Tryz.ntmps5
    go_wp2_with (first
    | (go_at_call 17; (with_reducible refine (short_at a _ _ SA.out).mono ?_); rintro e W ⟨rfl, rfl⟩)
    | (go_at_call 18; (with_reducible refine (HS.out _ (HT.out.below HB.out)).mono ?_); rintro e W ⟨rfl, hbz⟩; have HB := Lib.hid (below_then' HB.out hbz); clear hbz))
    go_ret
    exact ⟨rfl, HB.out⟩
  · obtain rfl : sb = false := by simpa using hn
    clear hn
    go_enter Tryz.func5, Tryz.ntmps5
    go_wp2_with (first
    | (go_at_call 17; (with_reducible refine (short_at a _ _ SA.out).mono ?_); rintro e W ⟨rfl, rfl⟩)
    | (go_at_call 17; (with_reducible refine (short_at b _ _ SB.out).mono ?_); rintro e W ⟨rfl, rfl⟩)
    | (go_at_call 18; (with_reducible refine (HS.out _ (HT.out.below HB.out)).mono ?_); rintro e W ⟨rfl, hbz⟩; have HB := Lib.hid (below_then' HB.out hbz); clear hbz))
    go_ret
    exact ⟨rfl, HB.out⟩

set_option maxRecDepth 100000 in
set_option maxHeartbeats 8000000 in
theorem divs_bad (hsan : San) (a b : ByteArray) (w : World) (ht : Tabs w) (ha : SB3 true a) (hb : SB3 true b) (h1 : VB false a) :
    Calls Tryz.prog 5 #[.string a, .string b] w fun e w' => e = .returned (.bool true) ∧ Below w.heap.size w w' := by
  have HT := Lib.hid ht
  have HB : Hid (Below w.heap.size w w) := Below.refl _ _
  have HS : Hid (∀ w : World, Tabs w → Calls Tryz.prog 18 #[] w fun e w' => e = .returned (.bool true) ∧ Below w.heap.size w w') := hsan
  have SA := Lib.hid ha; have SB := Lib.hid hb; have VA := Lib.hid h1
  have HNA : Hid (¬ ∃ x, NumL a.data.toList x) := fun h => by have e1 := h1.2 h; cases e1
  have HNV : Hid (¬ ((∃ x, NumL a.data.toList x) ∧ ∃ y, NumL b.data.toList y)) := fun h => HNA.out h.1
  clear ha hb h1 hsan ht
  go_enter Tryz.func5, Tryz.ntmps5
  go_wp2_with (first
  | (go_at_call 17; (with_reducible refine (short_at a _ _ SA.out).mono ?_); rintro e W ⟨rfl, rfl⟩)
  | (go_at_call 17; (with_reducible refine (short_at b _ _ SB.out).mono ?_); rintro e W ⟨rfl, rfl⟩)
  | (go_at_call 32; (with_reducible refine (gcd_bad a b _ (HT.out.below HB.out) HNV.out).mono ?_); rintro e W ⟨rfl, hbz⟩; have HB := Lib.hid (below_then' HB.out hbz); clear hbz)
  | (go_at_call 33; (with_reducible refine (root_bad a _ (HT.out.below HB.out) HNA.out).mono ?_); rintro e W ⟨rfl, hbz⟩; have HB := Lib.hid (below_then' HB.out hbz); clear hbz)
  | (go_at_call 21; (with_reducible refine (rvalid_at a _ _ VA.out).mono ?_); rintro e W ⟨rfl, hbz⟩; have HB := Lib.hid (below_then' HB.out hbz); clear hbz)
  | (go_at_call 18; (with_reducible refine (HS.out _ (HT.out.below HB.out)).mono ?_); rintro e W ⟨rfl, hbz⟩; have HB := Lib.hid (below_then' HB.out hbz); clear hbz)
  | (go_at_call 22; (with_reducible refine (refused_c 1 _).mono ?_); rintro e W ⟨rfl, rfl⟩))
  go_ret
  exact ⟨rfl, HB.out⟩

set_option maxRecDepth 100000 in
set_option maxHeartbeats 8000000 in
theorem divs_neg_ok (hsan : San) (a b : ByteArray) (w : World) (ht : Tabs w) (x : Int) (y : Int) (hx : x < 0) (ha : SB3 true a) (hb : SB3 true b) (h1 : NumL a.data.toList x) (h2 : NumL b.data.toList y) :
    Calls Tryz.prog 5 #[.string a, .string b] w fun e w' => e = .returned (.bool true) ∧ Below w.heap.size w w' := by
  have HT := Lib.hid ht
  have HB : Hid (Below w.heap.size w w) := Below.refl _ _
  have HS : Hid (∀ w : World, Tabs w → Calls Tryz.prog 18 #[] w fun e w' => e = .returned (.bool true) ∧ Below w.heap.size w w') := hsan
  have SA := Lib.hid ha; have SB := Lib.hid hb; have VA : Hid (VB true a) := ⟨fun _ => ⟨x, h1⟩, fun _ => rfl⟩
  have HNA := Lib.hid h1
  have HLX := Lib.hid (len_fit h1.2)
  have HXN := Lib.hid hx
  have HL4 : Hid ((dg 10 x.natAbs).length ≤ 400000) := Nat.le_trans HLX.out (by decide)
  have VB2 : Hid (VB true b) := ⟨fun _ => ⟨y, h2⟩, fun _ => rfl⟩
  have HNB := Lib.hid h2
  have HLY4 : Hid ((dg 10 y.natAbs).length ≤ 400000) := Nat.le_trans (len_fit h2.2) (by decide)
  obtain ⟨X, Y, hP⟩ := gcdP_ex x y
  obtain ⟨q1, q2, q3⟩ := gcdP_fit hP h1.2 h2.2
  have HP := Lib.hid hP
  have HM1 : Hid ((dg 10 (Int.gcd x y : Int).natAbs).length ≤ 1000000) := Nat.le_trans (len_fit q1) (by decide)
  have HM2 : Hid ((dg 10 X.natAbs).length ≤ 1000000) := Nat.le_trans (len_fit q2) (by decide)
  have HM3 : Hid ((dg 10 Y.natAbs).length ≤ 1000000) := Nat.le_trans (len_fit q3) (by decide)
  have HK1 : Hid (ern (Int.gcd x y : Int) = 0) := ern_fit q1
  have HK2 : Hid (ern X = 0) := ern_fit q2
  have HK3 : Hid (ern Y = 0) := ern_fit q3
  obtain ⟨s1, hs1⟩ : ∃ s, txt (Int.gcd x y : Int) = s := ⟨_, rfl⟩
  obtain ⟨s2, hs2⟩ : ∃ s, txt X = s := ⟨_, rfl⟩
  obtain ⟨s3, hs3⟩ : ∃ s, txt Y = s := ⟨_, rfl⟩
  have H1 := Lib.hid hs1; have H2 := Lib.hid hs2; have H3 := Lib.hid hs3
  clear hs1 hs2 hs3 q1 q2 q3 hP
  clear ha hb h1 h2 hsan ht hx
  go_enter Tryz.func5, Tryz.ntmps5
  go_upto_region 8 with (first
  | (go_at_call 17; (with_reducible refine (short_at a _ _ SA.out).mono ?_); rintro e W ⟨rfl, rfl⟩)
  | (go_at_call 17; (with_reducible refine (short_at b _ _ SB.out).mono ?_); rintro e W ⟨rfl, rfl⟩)
  | (go_at_call 32; (with_reducible refine (law_gcd a b x y (Int.gcd x y : Int) X Y s1 s2 s3 _ HNA.out HNB.out HP.out H1.out H2.out H3.out (HT.out.below HB.out)).mono ?_); rintro e W ⟨rfl, hbz⟩; have HB := Lib.hid (below_then' HB.out hbz); clear hbz)
  | (go_at_call 33; (with_reducible refine (law_root_neg a x _ HNA.out HXN.out (HT.out.below HB.out)).mono ?_); rintro e W ⟨rfl, hbz⟩; have HB := Lib.hid (below_then' HB.out hbz); clear hbz)
  | (go_at_call 21; (with_reducible refine (rvalid_at a _ _ VA.out).mono ?_); rintro e W ⟨rfl, hbz⟩; have HB := Lib.hid (below_then' HB.out hbz); clear hbz)
  | (go_at_call 23; (with_reducible refine (rof_c a x _ HNA.out).mono ?_); rintro e W ⟨u, rfl, hu, hbz⟩; obtain ⟨A1, n1, c1, b1, rfl⟩ := hu.form; have HX := Lib.hid hu; have HB := Lib.hid (below_then' HB.out hbz); clear hu hbz))
  have k0 : Below W.heap.size W (W.alloc (.cells #[.slice A1 n1 c1, .bool b1] 32)) := (Below.refl _ _).alloc (Nat.le_refl _) _
  have hb1 : (W.alloc (.cells #[.slice A1 n1 c1, .bool b1] 32)).heap[W.heap.size]? = some (.cells #[.slice A1 n1 c1, .bool b1] 32 (0, 0)) := heap_alloc_new _ _
  obtain ⟨V, hV⟩ : ∃ V, W.alloc (.cells #[.slice A1 n1 c1, .bool b1] 32) = V := ⟨_, rfl⟩
  rw [hV] at k0 hb1 ⊢
  have HBV := Lib.hid (below_then' HB.out k0)
  have HTV := Lib.hid (HT.out.below HBV.out)
  have HXV := Lib.hid (HX.out.below k0)
  obtain ⟨P1, hP1⟩ : ∃ P1, W.heap.size = P1 := ⟨_, rfl⟩
  rw [hP1] at hb1 ⊢
  have c10 := box0 hb1; have c11 := box1 hb1
  clear k0 hV hP1 hb1 HB HX
  obtain ⟨-, hb1⟩ := ri_parts HXV.out
  obtain rfl : b1 = true := by rw [hb1]; have := HXN.out; simp; omega
  clear hb1
  have HDV : Hid (Dg 10 V (.slice A1 n1 c1) x.natAbs) := by
    obtain ⟨p, e, hp⟩ := HXV.out
    simp at e
    show Dg 10 V _ _
    rw [e.1]; exact hp
  have HBC : Hid (Below V.heap.size V V) := Below.refl _ _
  go_upto_region 15 with (first
  | (go_at_call 22; (with_reducible refine (refused_c 5 _).mono ?_); rintro e W ⟨rfl, rfl⟩)
  | (go_at_call 21; (with_reducible refine (rvalid_at b _ _ VB2.out).mono ?_); rintro e W9 ⟨rfl, hbz⟩; have c10 := keep_cell hbz c10; have c11 := keep_cell hbz c11; have HBC := Lib.hid (below_then' HBC.out hbz); clear hbz))
  obtain ⟨V9, hV9, hB9⟩ := name_world HBC.out
  try rw [← hV9]
  rw [← hV9] at c10 c11
  clear hV9
  have HX9 := Lib.hid (HXV.out.below hB9)
  have HB8 := Lib.hid (below_then' HBV.out hB9)
  clear hB9
  have a10 := fun o => keep_cell ((Below.refl V9.heap.size V9).alloc (Nat.le_refl _) o) c10
  have a11 := fun o => keep_cell ((Below.refl V9.heap.size V9).alloc (Nat.le_refl _) o) c11
  go_region_with (first
    | (go_at_call 23; refine (rof_c b y _ HNB.out).mono ?_; rintro e W2 ⟨u, rfl, hu, hbz⟩; obtain ⟨A2, n2, c2, b2, rfl⟩ := hu.form; have HU2 := Lib.hid hu; (first | (with_reducible have hbx := heap_below (nbh1 V9 (.cells #[.slice none 0 0, .bool false, .slice none 0 0, .bool false, .slice none 0 0, .bool false] 51)) hbz) | skip); have HB2 : Hid (Below V9.heap.size V9 W2) := (by first | (with_reducible exact Lib.hid (below_then' (Below.refl _ _).drew hbz)) | (with_reducible exact Lib.hid (below_then' ((Below.refl _ _).alloc (Nat.le_refl _) _).drew hbz))); have a10 : ∀ o, (W2.alloc o).cell? ⟨P1, 0, none⟩ = some (.slice A1 n1 c1) := fun o => keep_cell (HB2.out.alloc HB2.out.size o) c10; have a11 : ∀ o, (W2.alloc o).cell? ⟨P1, 1, none⟩ = some (.bool true) := fun o => keep_cell (HB2.out.alloc HB2.out.size o) c11; have c10 := keep_cell HB2.out c10; have c11 := keep_cell HB2.out c11; have hs2 := HB2.out.size; clear hbz hu)
    | (go_at_call 35; refine (rgcd_c (.agg #[.slice A1 n1 c1, .bool true]) _ x y _ (HX9.out.below ?_) (HU2.out.below ?_) HL4.out HLY4.out).mono ?_; (first | (with_reducible exact HB2.out) | (with_reducible exact HB2.out.alloc HB2.out.size _)); (first | (with_reducible exact Below.refl _ _) | (with_reducible exact (Below.refl _ _).drew) | (with_reducible exact (Below.refl _ _).alloc (Nat.le_refl _) _) | (with_reducible exact ((Below.refl _ _).alloc (Nat.le_refl _) _).drew)); rintro e W3 ⟨v, X', Y', rfl, hu, hP, hbz⟩; obtain ⟨-, e2, e3⟩ := hP.unique HP.out; rw [e2, e3] at hu; obtain ⟨A3, n3, c3, b3, A4, n4, c4, b4, A5, n5, c5, b5, rfl⟩ := hu.form; have HU3 := Lib.hid hu; (first | (with_reducible (have hbx := heap_below hbx hbz; obtain ⟨y0, y1, y2, y3, y4, y5⟩ := six_cells hbx; have z0 := free_of_heap hbx 0; have z1 := free_of_heap hbx 1; have z2 := free_of_heap hbx 2; have z3 := free_of_heap hbx 3; have z4 := free_of_heap hbx 4; have z5 := free_of_heap hbx 5)) | (with_reducible (have hbx := heap_below (heap_alloc_new W2 (.cells #[.slice none 0 0, .bool false, .slice none 0 0, .bool false, .slice none 0 0, .bool false] 51)) hbz; obtain ⟨y0, y1, y2, y3, y4, y5⟩ := six_cells hbx; have z0 := free_of_heap hbx 0; have z1 := free_of_heap hbx 1; have z2 := free_of_heap hbx 2; have z3 := free_of_heap hbx 3; have z4 := free_of_heap hbx 4; have z5 := free_of_heap hbx 5)) | skip); have HB9 : Hid (Below V9.heap.size V9 W3) := (by first | (with_reducible exact Lib.hid (below_then' HB2.out hbz)) | (with_reducible exact Lib.hid (below_then' (HB2.out.alloc HB2.out.size _) hbz))); have hs3 := HB9.out.size; clear hbz hu hP e2 e3))
  all_goals
    (first
      | (obtain ⟨F, hF, hbF, hBz, hbf⟩ := bz_put HU3.out.parts.1 HU3.out.parts.2.1 HU3.out.parts.2.2 hbx; rw [hF])
      | (obtain ⟨F, hF, hbF, hBz, hbf⟩ := bz_new 51 HU3.out; rw [hF]))
    have HBF := Lib.hid (hbf V9.heap.size V9 (by first | exact Nat.le_refl _ | exact hs3 | omega) HB9.out)
    have HBD : Hid (Below F.heap.size F F) := Below.refl _ _
    obtain ⟨d0, d1, d2, d3, d4, d5⟩ := six_cells hbF
    have HQ := Lib.hid hBz.parts
    have HTF := Lib.hid (HT.out.below (below_then' HB8.out HBF.out))
    clear hF hbF hBz hbf c10 c11
    go_wp2_with (first
      | (go_at_call 18; (with_reducible refine (HS.out _ (HTF.out.below HBD.out)).mono ?_); rintro e W9 ⟨rfl, hbz⟩; have d0 := keep_cell hbz d0; have d1 := keep_cell hbz d1; have d2 := keep_cell hbz d2; have d3 := keep_cell hbz d3; have d4 := keep_cell hbz d4; have d5 := keep_cell hbz d5; have HBD := Lib.hid (below_then' HBD.out hbz); clear hbz)
      | (go_at_call 25; (with_reducible refine (is_c s1 0 (.agg #[.slice A3 n3 c3, .bool b3]) (Int.gcd x y : Int) _ (HQ.out.1.below HBD.out) HM1.out H1.out HK1.out).mono ?_); rintro e W9 ⟨rfl, hbz⟩; have d0 := keep_cell hbz d0; have d1 := keep_cell hbz d1; have d2 := keep_cell hbz d2; have d3 := keep_cell hbz d3; have d4 := keep_cell hbz d4; have d5 := keep_cell hbz d5; have HBD := Lib.hid (below_then' HBD.out hbz); clear hbz)
      | (go_at_call 25; (with_reducible refine (is_c s2 0 (.agg #[.slice A4 n4 c4, .bool b4]) X _ (HQ.out.2.1.below HBD.out) HM2.out H2.out HK2.out).mono ?_); rintro e W9 ⟨rfl, hbz⟩; have d0 := keep_cell hbz d0; have d1 := keep_cell hbz d1; have d2 := keep_cell hbz d2; have d3 := keep_cell hbz d3; have d4 := keep_cell hbz d4; have d5 := keep_cell hbz d5; have HBD := Lib.hid (below_then' HBD.out hbz); clear hbz)
      | (go_at_call 25; (with_reducible refine (is_c s3 0 (.agg #[.slice A5 n5 c5, .bool b5]) Y _ (HQ.out.2.2.below HBD.out) HM3.out H3.out HK3.out).mono ?_); rintro e W9 ⟨rfl, hbz⟩; have d0 := keep_cell hbz d0; have d1 := keep_cell hbz d1; have d2 := keep_cell hbz d2; have d3 := keep_cell hbz d3; have d4 := keep_cell hbz d4; have d5 := keep_cell hbz d5; have HBD := Lib.hid (below_then' HBD.out hbz); clear hbz))
    go_ret
    exact ⟨rfl, below_then' (below_then' HB8.out HBF.out) HBD.out⟩

set_option maxRecDepth 100000 in
set_option maxHeartbeats 8000000 in
theorem divs_pos_ok (hsan : San) (a b : ByteArray) (w : World) (ht : Tabs w) (x : Int) (y : Int) (hx : 0 ≤ x) (ha : SB3 true a) (hb : SB3 true b) (h1 : NumL a.data.toList x) (h2 : NumL b.data.toList y) :
    Calls Tryz.prog 5 #[.string a, .string b] w fun e w' => e = .returned (.bool true) ∧ Below w.heap.size w w' := by
  have HT := Lib.hid ht
  have HB : Hid (Below w.heap.size w w) := Below.refl _ _
  have HS : Hid (∀ w : World, Tabs w → Calls Tryz.prog 18 #[] w fun e w' => e = .returned (.bool true) ∧ Below w.heap.size w w') := hsan
  have SA := Lib.hid ha; have SB := Lib.hid hb; have VA : Hid (VB true a) := ⟨fun _ => ⟨x, h1⟩, fun _ => rfl⟩
  have HNA := Lib.hid h1
  have HLX := Lib.hid (len_fit h1.2)
  have HXN := Lib.hid hx
  have HL4 : Hid ((dg 10 x.natAbs).length ≤ 400000) := Nat.le_trans HLX.out (by decide)
  have VB2 : Hid (VB true b) := ⟨fun _ => ⟨y, h2⟩, fun _ => rfl⟩
  have HNB := Lib.hid h2
  have HLY4 : Hid ((dg 10 y.natAbs).length ≤ 400000) := Nat.le_trans (len_fit h2.2) (by decide)
  obtain ⟨X, Y, hP⟩ := gcdP_ex x y
  obtain ⟨q1, q2, q3⟩ := gcdP_fit hP h1.2 h2.2
  have HP := Lib.hid hP
  have HM1 : Hid ((dg 10 (Int.gcd x y : Int).natAbs).length ≤ 1000000) := Nat.le_trans (len_fit q1) (by decide)
  have HM2 : Hid ((dg 10 X.natAbs).length ≤ 1000000) := Nat.le_trans (len_fit q2) (by decide)
  have HM3 : Hid ((dg 10 Y.natAbs).length ≤ 1000000) := Nat.le_trans (len_fit q3) (by decide)
  have HK1 : Hid (ern (Int.gcd x y : Int) = 0) := ern_fit q1
  have HK2 : Hid (ern X = 0) := ern_fit q2
  have HK3 : Hid (ern Y = 0) := ern_fit q3
  obtain ⟨s1, hs1⟩ : ∃ s, txt (Int.gcd x y : Int) = s := ⟨_, rfl⟩
  obtain ⟨s2, hs2⟩ : ∃ s, txt X = s := ⟨_, rfl⟩
  obtain ⟨s3, hs3⟩ : ∃ s, txt Y = s := ⟨_, rfl⟩
  have H1 := Lib.hid hs1; have H2 := Lib.hid hs2; have H3 := Lib.hid hs3
  clear hs1 hs2 hs3 q1 q2 q3 hP
  obtain ⟨s9, hs9⟩ : ∃ s, txt (root x.natAbs : Int) = s := ⟨_, rfl⟩
  obtain ⟨e9, he9⟩ : ∃ e, ern (root x.natAbs : Int) = e := ⟨_, rfl⟩
  have H9 := Lib.hid (And.intro hs9 he9)
  have HLRT : Hid ((dg 10 (root x.natAbs : Int).natAbs).length ≤ 1000000) := by show _ ≤ _; rw [Int.natAbs_natCast]; exact Nat.le_trans (dg_length_mono (by decide) (root_self_le _)) (Nat.le_trans HLX.out (by decide))
  clear hs9 he9
  clear ha hb h1 h2 hsan ht hx
  go_enter Tryz.func5, Tryz.ntmps5
  go_upto_region 8 with (first
  | (go_at_call 17; (with_reducible refine (short_at a _ _ SA.out).mono ?_); rintro e W ⟨rfl, rfl⟩)
  | (go_at_call 17; (with_reducible refine (short_at b _ _ SB.out).mono ?_); rintro e W ⟨rfl, rfl⟩)
  | (go_at_call 32; (with_reducible refine (law_gcd a b x y (Int.gcd x y : Int) X Y s1 s2 s3 _ HNA.out HNB.out HP.out H1.out H2.out H3.out (HT.out.below HB.out)).mono ?_); rintro e W ⟨rfl, hbz⟩; have HB := Lib.hid (below_then' HB.out hbz); clear hbz)
  | (go_at_call 33; (with_reducible refine (law_root a x s9 e9 _ HNA.out HXN.out H9.out.1 H9.out.2 (HT.out.below HB.out)).mono ?_); rintro e W ⟨rfl, hbz⟩; have HB := Lib.hid (below_then' HB.out hbz); clear hbz)
  | (go_at_call 21; (with_reducible refine (rvalid_at a _ _ VA.out).mono ?_); rintro e W ⟨rfl, hbz⟩; have HB := Lib.hid (below_then' HB.out hbz); clear hbz)
  | (go_at_call 23; (with_reducible refine (rof_c a x _ HNA.out).mono ?_); rintro e W ⟨u, rfl, hu, hbz⟩; obtain ⟨A1, n1, c1, b1, rfl⟩ := hu.form; have HX := Lib.hid hu; have HB := Lib.hid (below_then' HB.out hbz); clear hu hbz))
  have k0 : Below W.heap.size W (W.alloc (.cells #[.slice A1 n1 c1, .bool b1] 32)) := (Below.refl _ _).alloc (Nat.le_refl _) _
  have hb1 : (W.alloc (.cells #[.slice A1 n1 c1, .bool b1] 32)).heap[W.heap.size]? = some (.cells #[.slice A1 n1 c1, .bool b1] 32 (0, 0)) := heap_alloc_new _ _
  obtain ⟨V, hV⟩ : ∃ V, W.alloc (.cells #[.slice A1 n1 c1, .bool b1] 32) = V := ⟨_, rfl⟩
  rw [hV] at k0 hb1 ⊢
  have HBV := Lib.hid (below_then' HB.out k0)
  have HTV := Lib.hid (HT.out.below HBV.out)
  have HXV := Lib.hid (HX.out.below k0)
  obtain ⟨P1, hP1⟩ : ∃ P1, W.heap.size = P1 := ⟨_, rfl⟩
  rw [hP1] at hb1 ⊢
  have c10 := box0 hb1; have c11 := box1 hb1
  clear k0 hV hP1 hb1 HB HX
  obtain ⟨-, hb1⟩ := ri_parts HXV.out
  obtain rfl : b1 = false := by rw [hb1]; have := HXN.out; simp; omega
  clear hb1
  have HDV : Hid (Dg 10 V (.slice A1 n1 c1) x.natAbs) := by
    obtain ⟨p, e, hp⟩ := HXV.out
    simp at e
    show Dg 10 V _ _
    rw [e.1]; exact hp
  have HBC : Hid (Below V.heap.size V V) := Below.refl _ _
  go_upto_region 15 with (first
  | (go_at_call 22; (with_reducible refine (refused_c 5 _).mono ?_); rintro e W ⟨rfl, rfl⟩)
  | (go_at_call 21; (with_reducible refine (rvalid_at b _ _ VB2.out).mono ?_); rintro e W9 ⟨rfl, hbz⟩; have c10 := keep_cell hbz c10; have c11 := keep_cell hbz c11; have HBC := Lib.hid (below_then' HBC.out hbz); clear hbz)
  | (go_at_call 34; (with_reducible refine (rroot_c _ x.natAbs _ (HDV.out.below HBC.out) HL4.out).mono ?_); rintro e W9 ⟨u, rfl, hu, -, hbz⟩; obtain ⟨A7, n7, c7, rfl⟩ := hu.form; have HRT : Hid (Ri W9 (.agg #[.slice A7 n7 c7, .bool false]) (root x.natAbs : Int)) := ⟨_, by rw [decide_eq_false (by omega)], by rw [Int.natAbs_natCast]; exact hu⟩; have c10 := keep_cell hbz c10; have c11 := keep_cell hbz c11; have HBC := Lib.hid (below_then' HBC.out hbz); clear hbz hu)
  | (go_at_call 25; (with_reducible refine (is_c s9 e9 (.agg #[.slice A7 n7 c7, .bool false]) (root x.natAbs : Int) _ (HRT.out.below (Below.refl _ _)) HLRT.out H9.out.1 H9.out.2).mono ?_); rintro e W9 ⟨rfl, hbz⟩; have c10 := keep_cell hbz c10; have c11 := keep_cell hbz c11; have HBC := Lib.hid (below_then' HBC.out hbz); clear hbz))
  obtain ⟨V9, hV9, hB9⟩ := name_world HBC.out
  try rw [← hV9]
  rw [← hV9] at c10 c11
  clear hV9
  have HX9 := Lib.hid (HXV.out.below hB9)
  have HB8 := Lib.hid (below_then' HBV.out hB9)
  clear hB9
  have a10 := fun o => keep_cell ((Below.refl V9.heap.size V9).alloc (Nat.le_refl _) o) c10
  have a11 := fun o => keep_cell ((Below.refl V9.heap.size V9).alloc (Nat.le_refl _) o) c11
  go_region_with (first
    | (go_at_call 23; refine (rof_c b y _ HNB.out).mono ?_; rintro e W2 ⟨u, rfl, hu, hbz⟩; obtain ⟨A2, n2, c2, b2, rfl⟩ := hu.form; have HU2 := Lib.hid hu; (first | (with_reducible have hbx := heap_below (nbh1 V9 (.cells #[.slice none 0 0, .bool false, .slice none 0 0, .bool false, .slice none 0 0, .bool false] 51)) hbz) | skip); have HB2 : Hid (Below V9.heap.size V9 W2) := (by first | (with_reducible exact Lib.hid (below_then' (Below.refl _ _).drew hbz)) | (with_reducible exact Lib.hid (below_then' ((Below.refl _ _).alloc (Nat.le_refl _) _).drew hbz))); have a10 : ∀ o, (W2.alloc o).cell? ⟨P1, 0, none⟩ = some (.slice A1 n1 c1) := fun o => keep_cell (HB2.out.alloc HB2.out.size o) c10; have a11 : ∀ o, (W2.alloc o).cell? ⟨P1, 1, none⟩ = some (.bool false) := fun o => keep_cell (HB2.out.alloc HB2.out.size o) c11; have c10 := keep_cell HB2.out c10; have c11 := keep_cell HB2.out c11; have hs2 := HB2.out.size; clear hbz hu)
    | (go_at_call 35; refine (rgcd_c (.agg #[.slice A1 n1 c1, .bool false]) _ x y _ (HX9.out.below ?_) (HU2.out.below ?_) HL4.out HLY4.out).mono ?_; (first | (with_reducible exact HB2.out) | (with_reducible exact HB2.out.alloc HB2.out.size _)); (first | (with_reducible exact Below.refl _ _) | (with_reducible exact (Below.refl _ _).drew) | (with_reducible exact (Below.refl _ _).alloc (Nat.le_refl _) _) | (with_reducible exact ((Below.refl _ _).alloc (Nat.le_refl _) _).drew)); rintro e W3 ⟨v, X', Y', rfl, hu, hP, hbz⟩; obtain ⟨-, e2, e3⟩ := hP.unique HP.out; rw [e2, e3] at hu; obtain ⟨A3, n3, c3, b3, A4, n4, c4, b4, A5, n5, c5, b5, rfl⟩ := hu.form; have HU3 := Lib.hid hu; (first | (with_reducible (have hbx := heap_below hbx hbz; obtain ⟨y0, y1, y2, y3, y4, y5⟩ := six_cells hbx; have z0 := free_of_heap hbx 0; have z1 := free_of_heap hbx 1; have z2 := free_of_heap hbx 2; have z3 := free_of_heap hbx 3; have z4 := free_of_heap hbx 4; have z5 := free_of_heap hbx 5)) | (with_reducible (have hbx := heap_below (heap_alloc_new W2 (.cells #[.slice none 0 0, .bool false, .slice none 0 0, .bool false, .slice none 0 0, .bool false] 51)) hbz; obtain ⟨y0, y1, y2, y3, y4, y5⟩ := six_cells hbx; have z0 := free_of_heap hbx 0; have z1 := free_of_heap hbx 1; have z2 := free_of_heap hbx 2; have z3 := free_of_heap hbx 3; have z4 := free_of_heap hbx 4; have z5 := free_of_heap hbx 5)) | skip); have HB9 : Hid (Below V9.heap.size V9 W3) := (by first | (with_reducible exact Lib.hid (below_then' HB2.out hbz)) | (with_reducible exact Lib.hid (below_then' (HB2.out.alloc HB2.out.size _) hbz))); have hs3 := HB9.out.size; clear hbz hu hP e2 e3))
  all_goals
    (first
      | (obtain ⟨F, hF, hbF, hBz, hbf⟩ := bz_put HU3.out.parts.1 HU3.out.parts.2.1 HU3.out.parts.2.2 hbx; rw [hF])
      | (obtain ⟨F, hF, hbF, hBz, hbf⟩ := bz_new 51 HU3.out; rw [hF]))
    have HBF := Lib.hid (hbf V9.heap.size V9 (by first | exact Nat.le_refl _ | exact hs3 | omega) HB9.out)
    have HBD : Hid (Below F.heap.size F F) := Below.refl _ _
    obtain ⟨d0, d1, d2, d3, d4, d5⟩ := six_cells hbF
    have HQ := Lib.hid hBz.parts
    have HTF := Lib.hid (HT.out.below (below_then' HB8.out HBF.out))
    clear hF hbF hBz hbf c10 c11
    go_wp2_with (first
      | (go_at_call 18; (with_reducible refine (HS.out _ (HTF.out.below HBD.out)).mono ?_); rintro e W9 ⟨rfl, hbz⟩; have d0 := keep_cell hbz d0; have d1 := keep_cell hbz d1; have d2 := keep_cell hbz d2; have d3 := keep_cell hbz d3; have d4 := keep_cell hbz d4; have d5 := keep_cell hbz d5; have HBD := Lib.hid (below_then' HBD.out hbz); clear hbz)
      | (go_at_call 25; (with_reducible refine (is_c s1 0 (.agg #[.slice A3 n3 c3, .bool b3]) (Int.gcd x y : Int) _ (HQ.out.1.below HBD.out) HM1.out H1.out HK1.out).mono ?_); rintro e W9 ⟨rfl, hbz⟩; have d0 := keep_cell hbz d0; have d1 := keep_cell hbz d1; have d2 := keep_cell hbz d2; have d3 := keep_cell hbz d3; have d4 := keep_cell hbz d4; have d5 := keep_cell hbz d5; have HBD := Lib.hid (below_then' HBD.out hbz); clear hbz)
      | (go_at_call 25; (with_reducible refine (is_c s2 0 (.agg #[.slice A4 n4 c4, .bool b4]) X _ (HQ.out.2.1.below HBD.out) HM2.out H2.out HK2.out).mono ?_); rintro e W9 ⟨rfl, hbz⟩; have d0 := keep_cell hbz d0; have d1 := keep_cell hbz d1; have d2 := keep_cell hbz d2; have d3 := keep_cell hbz d3; have d4 := keep_cell hbz d4; have d5 := keep_cell hbz d5; have HBD := Lib.hid (below_then' HBD.out hbz); clear hbz)
      | (go_at_call 25; (with_reducible refine (is_c s3 0 (.agg #[.slice A5 n5 c5, .bool b5]) Y _ (HQ.out.2.2.below HBD.out) HM3.out H3.out HK3.out).mono ?_); rintro e W9 ⟨rfl, hbz⟩; have d0 := keep_cell hbz d0; have d1 := keep_cell hbz d1; have d2 := keep_cell hbz d2; have d3 := keep_cell hbz d3; have d4 := keep_cell hbz d4; have d5 := keep_cell hbz d5; have HBD := Lib.hid (below_then' HBD.out hbz); clear hbz))
    go_ret
    exact ⟨rfl, below_then' (below_then' HB8.out HBF.out) HBD.out⟩

set_option maxRecDepth 100000 in
set_option maxHeartbeats 8000000 in
theorem divs_neg_no (hsan : San) (a b : ByteArray) (w : World) (ht : Tabs w) (x : Int) (hx : x < 0) (ha : SB3 true a) (hb : SB3 true b) (h1 : NumL a.data.toList x) (h2 : VB false b) :
    Calls Tryz.prog 5 #[.string a, .string b] w fun e w' => e = .returned (.bool true) ∧ Below w.heap.size w w' := by
  have HT := Lib.hid ht
  have HB : Hid (Below w.heap.size w w) := Below.refl _ _
  have HS : Hid (∀ w : World, Tabs w → Calls Tryz.prog 18 #[] w fun e w' => e = .returned (.bool true) ∧ Below w.heap.size w w') := hsan
  have SA := Lib.hid ha; have SB := Lib.hid hb; have VA : Hid (VB true a) := ⟨fun _ => ⟨x, h1⟩, fun _ => rfl⟩
  have HNA := Lib.hid h1
  have HLX := Lib.hid (len_fit h1.2)
  have HXN := Lib.hid hx
  have HL4 : Hid ((dg 10 x.natAbs).length ≤ 400000) := Nat.le_trans HLX.out (by decide)
  have VB2 := Lib.hid h2
  have HNV : Hid (¬ ((∃ x, NumL a.data.toList x) ∧ ∃ y, NumL b.data.toList y)) := fun h => by have e1 := h2.2 h.2; cases e1
  clear ha hb h1 h2 hsan ht hx
  go_enter Tryz.func5, Tryz.ntmps5
  go_upto_region 8 with (first
  | (go_at_call 17; (with_reducible refine (short_at a _ _ SA.out).mono ?_); rintro e W ⟨rfl, rfl⟩)
  | (go_at_call 17; (with_reducible refine (short_at b _ _ SB.out).mono ?_); rintro e W ⟨rfl, rfl⟩)
  | (go_at_call 32; (with_reducible refine (gcd_bad a b _ (HT.out.below HB.out) HNV.out).mono ?_); rintro e W ⟨rfl, hbz⟩; have HB := Lib.hid (below_then' HB.out hbz); clear hbz)
  | (go_at_call 33; (with_reducible refine (law_root_neg a x _ HNA.out HXN.out (HT.out.below HB.out)).mono ?_); rintro e W ⟨rfl, hbz⟩; have HB := Lib.hid (below_then' HB.out hbz); clear hbz)
  | (go_at_call 21; (with_reducible refine (rvalid_at a _ _ VA.out).mono ?_); rintro e W ⟨rfl, hbz⟩; have HB := Lib.hid (below_then' HB.out hbz); clear hbz)
  | (go_at_call 23; (with_reducible refine (rof_c a x _ HNA.out).mono ?_); rintro e W ⟨u, rfl, hu, hbz⟩; obtain ⟨A1, n1, c1, b1, rfl⟩ := hu.form; have HX := Lib.hid hu; have HB := Lib.hid (below_then' HB.out hbz); clear hu hbz))
  have k0 : Below W.heap.size W (W.alloc (.cells #[.slice A1 n1 c1, .bool b1] 32)) := (Below.refl _ _).alloc (Nat.le_refl _) _
  have hb1 : (W.alloc (.cells #[.slice A1 n1 c1, .bool b1] 32)).heap[W.heap.size]? = some (.cells #[.slice A1 n1 c1, .bool b1] 32 (0, 0)) := heap_alloc_new _ _
  obtain ⟨V, hV⟩ : ∃ V, W.alloc (.cells #[.slice A1 n1 c1, .bool b1] 32) = V := ⟨_, rfl⟩
  rw [hV] at k0 hb1 ⊢
  have HBV := Lib.hid (below_then' HB.out k0)
  have HTV := Lib.hid (HT.out.below HBV.out)
  have HXV := Lib.hid (HX.out.below k0)
  obtain ⟨P1, hP1⟩ : ∃ P1, W.heap.size = P1 := ⟨_, rfl⟩
  rw [hP1] at hb1 ⊢
  have c10 := box0 hb1; have c11 := box1 hb1
  clear k0 hV hP1 hb1 HB HX
  obtain ⟨-, hb1⟩ := ri_parts HXV.out
  obtain rfl : b1 = true := by rw [hb1]; have := HXN.out; simp; omega
  clear hb1
  have HDV : Hid (Dg 10 V (.slice A1 n1 c1) x.natAbs) := by
    obtain ⟨p, e, hp⟩ := HXV.out
    simp at e
    show Dg 10 V _ _
    rw [e.1]; exact hp
  have HBC : Hid (Below V.heap.size V V) := Below.refl _ _
  go_wp2_with (first
  | (go_at_call 22; (with_reducible refine (refused_c 5 _).mono ?_); rintro e W ⟨rfl, rfl⟩)
  | (go_at_call 21; (with_reducible refine (rvalid_at b _ _ VB2.out).mono ?_); rintro e W9 ⟨rfl, hbz⟩; have c10 := keep_cell hbz c10; have c11 := keep_cell hbz c11; have HBC := Lib.hid (below_then' HBC.out hbz); clear hbz)
  | (go_at_call 18; (with_reducible refine (HS.out _ (HTV.out.below HBC.out)).mono ?_); rintro e W9 ⟨rfl, hbz⟩; have c10 := keep_cell hbz c10; have c11 := keep_cell hbz c11; have HBC := Lib.hid (below_then' HBC.out hbz); clear hbz)
  | (go_at_call 22; (with_reducible refine (refused_c 1 _).mono ?_); rintro e W ⟨rfl, rfl⟩))
  go_ret
  exact ⟨rfl, below_then' HBV.out HBC.out⟩

set_option maxRecDepth 100000 in
set_option maxHeartbeats 8000000 in
theorem divs_pos_no (hsan : San) (a b : ByteArray) (w : World) (ht : Tabs w) (x : Int) (hx : 0 ≤ x) (ha : SB3 true a) (hb : SB3 true b) (h1 : NumL a.data.toList x) (h2 : VB false b) :
    Calls Tryz.prog 5 #[.string a, .string b] w fun e w' => e = .returned (.bool true) ∧ Below w.heap.size w w' := by
  have HT := Lib.hid ht
  have HB : Hid (Below w.heap.size w w) := Below.refl _ _
  have HS : Hid (∀ w : World, Tabs w → Calls Tryz.prog 18 #[] w fun e w' => e = .returned (.bool true) ∧ Below w.heap.size w w') := hsan
  have SA := Lib.hid ha; have SB := Lib.hid hb; have VA : Hid (VB true a) := ⟨fun _ => ⟨x, h1⟩, fun _ => rfl⟩
  have HNA := Lib.hid h1
  have HLX := Lib.hid (len_fit h1.2)
  have HXN := Lib.hid hx
  have HL4 : Hid ((dg 10 x.natAbs).length ≤ 400000) := Nat.le_trans HLX.out (by decide)
  have VB2 := Lib.hid h2
  have HNV : Hid (¬ ((∃ x, NumL a.data.toList x) ∧ ∃ y, NumL b.data.toList y)) := fun h => by have e1 := h2.2 h.2; cases e1
  obtain ⟨s9, hs9⟩ : ∃ s, txt (root x.natAbs : Int) = s := ⟨_, rfl⟩
  obtain ⟨e9, he9⟩ : ∃ e, ern (root x.natAbs : Int) = e := ⟨_, rfl⟩
  have H9 := Lib.hid (And.intro hs9 he9)
  have HLRT : Hid ((dg 10 (root x.natAbs : Int).natAbs).length ≤ 1000000) := by show _ ≤ _; rw [Int.natAbs_natCast]; exact Nat.le_trans (dg_length_mono (by decide) (root_self_le _)) (Nat.le_trans HLX.out (by decide))
  clear hs9 he9
  clear ha hb h1 h2 hsan ht hx
  go_enter Tryz.func5, Tryz.ntmps5
  go_upto_region 8 with (first
  | (go_at_call 17; (with_reducible refine (short_at a _ _ SA.out).mono ?_); rintro e W ⟨rfl, rfl⟩)
  | (go_at_call 17; (with_reducible refine (short_at b _ _ SB.out).mono ?_); rintro e W ⟨rfl, rfl⟩)
  | (go_at_call 32; (with_reducible refine (gcd_bad a b _ (HT.out.below HB.out) HNV.out).mono ?_); rintro e W ⟨rfl, hbz⟩; have HB := Lib.hid (below_then' HB.out hbz); clear hbz)
  | (go_at_call 33; (with_reducible refine (law_root a x s9 e9 _ HNA.out HXN.out H9.out.1 H9.out.2 (HT.out.below HB.out)).mono ?_); rintro e W ⟨rfl, hbz⟩; have HB := Lib.hid (below_then' HB.out hbz); clear hbz)
  | (go_at_call 21; (with_reducible refine (rvalid_at a _ _ VA.out).mono ?_); rintro e W ⟨rfl, hbz⟩; have HB := Lib.hid (below_then' HB.out hbz); clear hbz)
  | (go_at_call 23; (with_reducible refine (rof_c a x _ HNA.out).mono ?_); rintro e W ⟨u, rfl, hu, hbz⟩; obtain ⟨A1, n1, c1, b1, rfl⟩ := hu.form; have HX := Lib.hid hu; have HB := Lib.hid (below_then' HB.out hbz); clear hu hbz))
  have k0 : Below W.heap.size W (W.alloc (.cells #[.slice A1 n1 c1, .bool b1] 32)) := (Below.refl _ _).alloc (Nat.le_refl _) _
  have hb1 : (W.alloc (.cells #[.slice A1 n1 c1, .bool b1] 32)).heap[W.heap.size]? = some (.cells #[.slice A1 n1 c1, .bool b1] 32 (0, 0)) := heap_alloc_new _ _
  obtain ⟨V, hV⟩ : ∃ V, W.alloc (.cells #[.slice A1 n1 c1, .bool b1] 32) = V := ⟨_, rfl⟩
  rw [hV] at k0 hb1 ⊢
  have HBV := Lib.hid (below_then' HB.out k0)
  have HTV := Lib.hid (HT.out.below HBV.out)
  have HXV := Lib.hid (HX.out.below k0)
  obtain ⟨P1, hP1⟩ : ∃ P1, W.heap.size = P1 := ⟨_, rfl⟩
  rw [hP1] at hb1 ⊢
  have c10 := box0 hb1; have c11 := box1 hb1
  clear k0 hV hP1 hb1 HB HX
  obtain ⟨-, hb1⟩ := ri_parts HXV.out
  obtain rfl : b1 = false := by rw [hb1]; have := HXN.out; simp; omega
  clear hb1
  have HDV : Hid (Dg 10 V (.slice A1 n1 c1) x.natAbs) := by
    obtain ⟨p, e, hp⟩ := HXV.out
    simp at e
    show Dg 10 V _ _
    rw [e.1]; exact hp
  have HBC : Hid (Below V.heap.size V V) := Below.refl _ _
  go_wp2_with (first
  | (go_at_call 22; (with_reducible refine (refused_c 5 _).mono ?_); rintro e W ⟨rfl, rfl⟩)
  | (go_at_call 21; (with_reducible refine (rvalid_at b _ _ VB2.out).mono ?_); rintro e W9 ⟨rfl, hbz⟩; have c10 := keep_cell hbz c10; have c11 := keep_cell hbz c11; have HBC := Lib.hid (below_then' HBC.out hbz); clear hbz)
  | (go_at_call 34; (with_reducible refine (rroot_c _ x.natAbs _ (HDV.out.below HBC.out) HL4.out).mono ?_); rintro e W9 ⟨u, rfl, hu, -, hbz⟩; obtain ⟨A7, n7, c7, rfl⟩ := hu.form; have HRT : Hid (Ri W9 (.agg #[.slice A7 n7 c7, .bool false]) (root x.natAbs : Int)) := ⟨_, by rw [decide_eq_false (by omega)], by rw [Int.natAbs_natCast]; exact hu⟩; have c10 := keep_cell hbz c10; have c11 := keep_cell hbz c11; have HBC := Lib.hid (below_then' HBC.out hbz); clear hbz hu)
  | (go_at_call 25; (with_reducible refine (is_c s9 e9 (.agg #[.slice A7 n7 c7, .bool false]) (root x.natAbs : Int) _ (HRT.out.below (Below.refl _ _)) HLRT.out H9.out.1 H9.out.2).mono ?_); rintro e W9 ⟨rfl, hbz⟩; have c10 := keep_cell hbz c10; have c11 := keep_cell hbz c11; have HBC := Lib.hid (below_then' HBC.out hbz); clear hbz)
  | (go_at_call 18; (with_reducible refine (HS.out _ (HTV.out.below HBC.out)).mono ?_); rintro e W9 ⟨rfl, hbz⟩; have c10 := keep_cell hbz c10; have c11 := keep_cell hbz c11; have HBC := Lib.hid (below_then' HBC.out hbz); clear hbz)
  | (go_at_call 22; (with_reducible refine (refused_c 1 _).mono ?_); rintro e W ⟨rfl, rfl⟩))
  go_ret
  exact ⟨rfl, below_then' HBV.out HBC.out⟩

theorem numberDivisors_c (hsan : San) (a b : ByteArray) (w : World) (ht : Tabs w) : Calls Tryz.prog 5 #[.string a, .string b] w fun e w' => e = .returned (.bool true) ∧ Below w.heap.size w w' := by
  obtain ⟨sa, ha⟩ : ∃ s, SB3 s a := ⟨_, rfl⟩
  obtain ⟨sb, hb⟩ : ∃ s, SB3 s b := ⟨_, rfl⟩
  by_cases hs : (sa && sb) = true
  · obtain ⟨rfl, rfl⟩ : sa = true ∧ sb = true := by simpa using hs
    obtain ⟨va, h1⟩ := vb_ex a
    obtain ⟨vb, h2⟩ := vb_ex b
    cases va
    · exact divs_bad hsan a b w ht ha hb h1
    · obtain ⟨x, hx⟩ := h1.1 rfl
      by_cases hn : x < 0
      · cases vb
        · exact divs_neg_no hsan a b w ht x hn ha hb hx h2
        · obtain ⟨y, hy⟩ := h2.1 rfl
          exact divs_neg_ok hsan a b w ht x y hn ha hb hx hy
      · cases vb
        · exact divs_pos_no hsan a b w ht x (by omega) ha hb hx h2
        · obtain ⟨y, hy⟩ := h2.1 rfl
          exact divs_pos_ok hsan a b w ht x y (by omega) ha hb hx hy
  · exact divs_long hsan a b w ht sa sb ha hb (by simpa using hs)

end Go.Proofs.YtbjgpbdkofadiaaGreatDoor
