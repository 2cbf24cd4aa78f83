/- The greatest common divisor with 0. -/
import Derived.Test.YtbjgpbdkofadiaaGreatDoorDivisor
import Derived.Deep.DrawnRows
namespace Go.Proofs.YtbjgpbdkofadiaaGreatDoor
set_option linter.unusedVariables false
set_option linter.unusedSimpArgs false
open Go.RowKit Go.Shelf Go.Proofs
attribute [local go_sem] max2_int min2_int max_two min_two

attribute [local go_sem ↓] Go.wp_at_zero Go.wp_at_succ
theorem dg_len0 (w : World) (A : Option Addr) (c : Nat) (hc : c ≤ 9223372036854775807) : Dg 1000000000 w (.slice A 0 c) 0 := by
  unfold Dg
  rw [dg_zero]
  exact ⟨A, c, rfl, Nat.zero_le _, hc, Row.nil⟩
theorem dg_new1 (w : World) (t : TypeId) : Dg 1000000000 (w.alloc (.cells #[.int .i64 1] t)).drew (.slice (some ⟨w.heap.size, 0, none⟩) 1 1) 1 := by
  unfold Dg
  rw [dg_one]
  refine ⟨_, _, rfl, by simp, by omega, fun j hj => ?_⟩
  obtain rfl : j = 0 := by simpa using hj
  refine ⟨_, rfl, ?_⟩
  rw [addr_zero]
  exact new_cell w _ _ 0
theorem sign_self (x : Int) : x.sign * x = (x.natAbs : Int) := by
  rcases Int.lt_trichotomy x 0 with h | h | h
  · rw [Int.sign_eq_neg_one_of_neg h]; omega
  · subst h; rfl
  · rw [Int.sign_eq_one_of_pos h]; omega
theorem rfl_nat (x : Int) (p : Value) : (Value.agg #[.bool false, p]) = .agg #[.bool (decide ((x.natAbs : Int) < 0)), p] := by
  rw [decide_eq_false (by omega)]
theorem sign_val {x : Int} {bx : Bool} (hx : x ≠ 0) (hb : decide (x < 0) = bx) (p : Value) : (Value.agg #[.bool bx, p]) = .agg #[.bool (decide (x.sign < 0)), p] := by
  rw [← hb]
  rcases Int.lt_trichotomy x 0 with h | h | h
  · rw [Int.sign_eq_neg_one_of_neg h, decide_eq_true h]; rfl
  · exact absurd h hx
  · rw [Int.sign_eq_one_of_pos h, decide_eq_false (by omega)]; rfl
theorem sign_abs {x : Int} (hx : x ≠ 0) : x.sign.natAbs = 1 := by
  rcases Int.lt_trichotomy x 0 with h | h | h
  · rw [Int.sign_eq_neg_one_of_neg h]; rfl
  · exact absurd h hx
  · rw [Int.sign_eq_one_of_pos h]; rfl
theorem sign_small (x : Int) : x.sign.natAbs < 10 ^ 200 := by
  rcases Int.lt_trichotomy x 0 with h | h | h
  · rw [Int.sign_eq_neg_one_of_neg h]; decide
  · rw [h]; decide
  · rw [Int.sign_eq_one_of_pos h]; decide
theorem gcdP_zero (x : Int) : GcdP x 0 (x.natAbs : Int) x.sign 0 where
  g_ := by simp
  sum := by rw [Int.zero_mul, Int.add_zero, sign_self]
  low := fun h => absurd rfl h
  high := fun h => absurd rfl h
  none := fun _ => ⟨rfl, rfl⟩
  size := .inr (by decide)

set_option maxRecDepth 100000 in
set_option maxHeartbeats 4000000 in
theorem divisor_zz (v1 v2 : Value) (x : Int) (w : World) (h1 : Wh w v1 x) (h2 : Wh w v2 0) (hx : x.natAbs < 10 ^ 200) (hx0 : x = 0) :
    Calls Tryz.prog 70 #[v1, v2] w (DivP x 0 w) := by
  obtain ⟨p, rfl, hp⟩ := h1
  obtain ⟨q, rfl, hq⟩ := h2
  have HP := Lib.hid hp
  have HQ := Lib.hid hq
  have HX := Lib.hid hx
  obtain ⟨L, hL⟩ : ∃ L, (dg 1000000000 x.natAbs).length = L := ⟨_, rfl⟩
  obtain ⟨A6, c6, hp6, -, -, -⟩ := hp
  rw [hL] at hp6
  subst hp6
  obtain ⟨A7, c7, hp7, -, -, -⟩ := hq
  rw [show (0 : Int).natAbs = 0 from rfl, dg_zero] at hp7
  simp only [List.length_nil] at hp7
  subst hp7
  obtain rfl : L = 0 := by rw [← hL, hx0]; exact congrArg List.length (dg_zero _)
  obtain ⟨bx, hbx⟩ : ∃ b, decide (x < 0) = b := ⟨_, rfl⟩
  rw [hbx, show decide ((0 : Int) < 0) = false from rfl]
  have HBX := Lib.hid hbx
  obtain ⟨W, hW, hh0, hh1, hh2, hbel, hsz⟩ := boxes3h w #[.bool bx, .slice A6 0 c6] #[.bool false, .slice A7 0 c7] #[.bool false, .slice none 0 0, .bool false, .slice none 0 0, .bool false, .slice none 0 0] 72 72 90
  have c00 := heap_box hh0 0; have c01 := heap_box hh0 1; have c10 := heap_box hh1 0; have c11 := heap_box hh1 1
  simp at c00 c01 c10 c11
  have HK2 := Lib.hid hh2
  have HBEL := Lib.hid hbel
  have HSZ : Hid (W.heap.size = w.heap.size + 3) := hsz
  have HPW : Hid (Dg 1000000000 W (.slice A6 0 c6) x.natAbs) := HP.out.below hbel.to
  have HQW : Hid (Dg 1000000000 W (.slice A7 0 c7) 0) := HQ.out.below hbel.to
  clear hbx hx hh0 hh1 hh2 hbel hsz hL
  go_enter Tryz.func70, Tryz.ntmps70
  go_wp2_with (go_at_call 111; (refine (combined_c _ _ x.natAbs 0 _ HPW.out HQW.out HX.out (by decide)).mono ?_); rintro e W1 ⟨u, v, x1, rfl, hu, ⟨p1, rfl, hp1⟩, hs, hxb, hbz⟩; rw [Nat.gcd_zero_right] at hu; obtain ⟨Ag, ng, cg, rfl⟩ := hu.form; obtain ⟨A1, n1, c1, rfl⟩ := hp1.form; obtain ⟨b1, hb1⟩ : ∃ b1, decide (x1 < 0) = b1 := ⟨_, rfl⟩; rw [hb1]; have HU := Lib.hid hu; have HB1 := Lib.hid hbz; have c00 := keep_cell hbz c00; have c01 := keep_cell hbz c01; have c10 := keep_cell hbz c10; have c11 := keep_cell hbz c11; obtain ⟨V1, hV1, kk, ff, hbv, hsv⟩ := boxes1 W1 #[.bool b1, .slice A1 n1 c1] 72; have hbv := hbv.to; have c00 := keep_cell hbv c00; have c01 := keep_cell hbv c01; have c10 := keep_cell hbv c10; have c11 := keep_cell hbv c11; have HBV := Lib.hid hbv; clear hu hp1 hs hxb hb1 hbz kk ff hbv hsv)
  have hbox := heap_below HK2.out (HB1.out.trans (HBV.out.mono HB1.out.size))
  have HBOX := Lib.hid hbox
  have m00 := fun (o : Obj) => keep_cell ((Below.refl V1.heap.size V1).alloc (Nat.le_refl _) o) c00
  have m01 := fun (o : Obj) => keep_cell ((Below.refl V1.heap.size V1).alloc (Nat.le_refl _) o) c01
  clear hbox hV1
  go_wp2_with fail
  go_region_with (first
    | (go_at_call 60; (with_reducible refine (made_c bx (.slice (some ⟨V1.heap.size, 0, none⟩) 0 1) 0 _ (dg_len0 _ _ _ (by decide))).mono ?_); rintro e W9 ⟨rfl, hb9⟩; rw [show (bx && decide (0 < 0)) = false from by simp]; have HB9 : Hid (Below V1.heap.size V1 W9) := below_then' ((Below.refl _ _).alloc (Nat.le_refl _) _).drew hb9; have HBX9 := Lib.hid (heap_below HBOX.out HB9.out); have z0 := heap_box HBX9.out 0; have z1 := heap_box HBX9.out 1; have z2 := heap_box HBX9.out 2; have z3 := heap_box HBX9.out 3; have z4 := heap_box HBX9.out 4; have z5 := heap_box HBX9.out 5; have y0 := free_of_heap HBX9.out 0; have y1 := free_of_heap HBX9.out 1; have y2 := free_of_heap HBX9.out 2; have y3 := free_of_heap HBX9.out 3; have y4 := free_of_heap HBX9.out 4; have y5 := free_of_heap HBX9.out 5; simp at z0 z1 z2 z3 z4 z5; have HB99 := Lib.hid hb9; clear hb9))
  all_goals
    go_wp2
    obtain ⟨F, hF, r0, r1, r2, r3, r4, r5, hbf, hdf⟩ := six_set HBX9.out (.bool false) (.slice Ag ng cg) (.bool false) (.slice (some ⟨V1.heap.size, 0, none⟩) 0 1) (.bool false) (.slice none 0 0)
    rw [hF]
    refine bodyPost_ret (v := .agg #[.bool false, .slice Ag ng cg, .bool false, .slice (some ⟨V1.heap.size, 0, none⟩) 0 1, .bool false, .slice none 0 0]) (by simp [results, Tryz.results70, go_sem, r0, r1, r2, r3, r4, r5]) rfl ?_
    have hb1 : Below w.heap.size w V1 := below_then' (below_then' HBEL.out.to HB1.out) HBV.out
    have hbw : Below w.heap.size w F := hbf _ _ (by omega) (below_then' hb1 HB9.out)
    have hX9 := HX.out
    refine ⟨_, _, _, _, _, _, (x.natAbs : Int), x.sign, 0, rfl, ⟨_, rfl_nat x _, ?_⟩, ?_, ⟨_, rfl, hdf _ _ (Dg.zero (by decide) _)⟩, gcdP_zero x, ?_, ?_, by decide, hbw⟩
    · rw [Int.natAbs_natCast]; exact hdf _ _ ((HU.out.below HBV.out).below HB9.out)
    · rw [hx0]; exact ⟨_, rfl, hdf _ _ (dg_len0 _ _ _ (by decide))⟩
    · rw [Int.natAbs_natCast]; exact hX9
    · exact sign_small x

set_option maxRecDepth 100000 in
set_option maxHeartbeats 4000000 in
theorem divisor_nz (v1 v2 : Value) (x : Int) (w : World) (h1 : Wh w v1 x) (h2 : Wh w v2 0) (hx : x.natAbs < 10 ^ 200) (hx0 : x ≠ 0) :
    Calls Tryz.prog 70 #[v1, v2] w (DivP x 0 w) := by
  obtain ⟨p, rfl, hp⟩ := h1
  obtain ⟨q, rfl, hq⟩ := h2
  have HP := Lib.hid hp
  have HQ := Lib.hid hq
  have HX := Lib.hid hx
  obtain ⟨L, hL⟩ : ∃ L, (dg 1000000000 x.natAbs).length = L := ⟨_, rfl⟩
  obtain ⟨A6, c6, hp6, -, -, -⟩ := hp
  rw [hL] at hp6
  subst hp6
  obtain ⟨A7, c7, hp7, -, -, -⟩ := hq
  rw [show (0 : Int).natAbs = 0 from rfl, dg_zero] at hp7
  simp only [List.length_nil] at hp7
  subst hp7
  have hl0 : 0 < L := by rw [← hL]; exact List.length_pos_iff.2 fun e => by have := (dg_eq_nil (by decide)).1 e; omega
  have hl1 : ¬ (L : Int) < 1 := by omega
  have hl2 : ¬ L < 1 := by omega
  have hl3 : ¬ L = 0 := by omega
  obtain ⟨bx, hbx⟩ : ∃ b, decide (x < 0) = b := ⟨_, rfl⟩
  rw [hbx, show decide ((0 : Int) < 0) = false from rfl]
  have HBX := Lib.hid hbx
  obtain ⟨W, hW, hh0, hh1, hh2, hbel, hsz⟩ := boxes3h w #[.bool bx, .slice A6 L c6] #[.bool false, .slice A7 0 c7] #[.bool false, .slice none 0 0, .bool false, .slice none 0 0, .bool false, .slice none 0 0] 72 72 90
  have c00 := heap_box hh0 0; have c01 := heap_box hh0 1; have c10 := heap_box hh1 0; have c11 := heap_box hh1 1
  simp at c00 c01 c10 c11
  have HK2 := Lib.hid hh2
  have HBEL := Lib.hid hbel
  have HSZ : Hid (W.heap.size = w.heap.size + 3) := hsz
  have HPW : Hid (Dg 1000000000 W (.slice A6 L c6) x.natAbs) := HP.out.below hbel.to
  have HQW : Hid (Dg 1000000000 W (.slice A7 0 c7) 0) := HQ.out.below hbel.to
  clear hbx hx hh0 hh1 hh2 hbel hsz hL
  go_enter Tryz.func70, Tryz.ntmps70
  go_wp2_with (go_at_call 111; (refine (combined_c _ _ x.natAbs 0 _ HPW.out HQW.out HX.out (by decide)).mono ?_); rintro e W1 ⟨u, v, x1, rfl, hu, ⟨p1, rfl, hp1⟩, hs, hxb, hbz⟩; rw [Nat.gcd_zero_right] at hu; obtain ⟨Ag, ng, cg, rfl⟩ := hu.form; obtain ⟨A1, n1, c1, rfl⟩ := hp1.form; obtain ⟨b1, hb1⟩ : ∃ b1, decide (x1 < 0) = b1 := ⟨_, rfl⟩; rw [hb1]; have HU := Lib.hid hu; have HB1 := Lib.hid hbz; have c00 := keep_cell hbz c00; have c01 := keep_cell hbz c01; have c10 := keep_cell hbz c10; have c11 := keep_cell hbz c11; obtain ⟨V1, hV1, kk, ff, hbv, hsv⟩ := boxes1 W1 #[.bool b1, .slice A1 n1 c1] 72; have hbv := hbv.to; have c00 := keep_cell hbv c00; have c01 := keep_cell hbv c01; have c10 := keep_cell hbv c10; have c11 := keep_cell hbv c11; have HBV := Lib.hid hbv; clear hu hp1 hs hxb hb1 hbz kk ff hbv hsv)
  have hbox := heap_below HK2.out (HB1.out.trans (HBV.out.mono HB1.out.size))
  have HBOX := Lib.hid hbox
  have m00 := fun (o : Obj) => keep_cell ((Below.refl V1.heap.size V1).alloc (Nat.le_refl _) o) c00
  have m01 := fun (o : Obj) => keep_cell ((Below.refl V1.heap.size V1).alloc (Nat.le_refl _) o) c01
  clear hbox hV1
  go_wp2_with fail
  go_region_with (first
    | (go_at_call 60; (with_reducible refine (made_c bx (.slice (some ⟨V1.heap.size, 0, none⟩) 1 1) 1 _ (dg_new1 V1 _)).mono ?_); rintro e W9 ⟨rfl, hb9⟩; rw [show (bx && decide (0 < 1)) = bx from by simp]; have HB9 : Hid (Below V1.heap.size V1 W9) := below_then' ((Below.refl _ _).alloc (Nat.le_refl _) _).drew hb9; have HBX9 := Lib.hid (heap_below HBOX.out HB9.out); have z0 := heap_box HBX9.out 0; have z1 := heap_box HBX9.out 1; have z2 := heap_box HBX9.out 2; have z3 := heap_box HBX9.out 3; have z4 := heap_box HBX9.out 4; have z5 := heap_box HBX9.out 5; have y0 := free_of_heap HBX9.out 0; have y1 := free_of_heap HBX9.out 1; have y2 := free_of_heap HBX9.out 2; have y3 := free_of_heap HBX9.out 3; have y4 := free_of_heap HBX9.out 4; have y5 := free_of_heap HBX9.out 5; simp at z0 z1 z2 z3 z4 z5; have HB99 := Lib.hid hb9; clear hb9))
  all_goals
    go_wp2
    obtain ⟨F, hF, r0, r1, r2, r3, r4, r5, hbf, hdf⟩ := six_set HBX9.out (.bool false) (.slice Ag ng cg) (.bool bx) (.slice (some ⟨V1.heap.size, 0, none⟩) 1 1) (.bool false) (.slice none 0 0)
    rw [hF]
    refine bodyPost_ret (v := .agg #[.bool false, .slice Ag ng cg, .bool bx, .slice (some ⟨V1.heap.size, 0, none⟩) 1 1, .bool false, .slice none 0 0]) (by simp [results, Tryz.results70, go_sem, r0, r1, r2, r3, r4, r5]) rfl ?_
    have hb1 : Below w.heap.size w V1 := below_then' (below_then' HBEL.out.to HB1.out) HBV.out
    have hbw : Below w.heap.size w F := hbf _ _ (by omega) (below_then' hb1 HB9.out)
    have hX9 := HX.out
    refine ⟨_, _, _, _, _, _, (x.natAbs : Int), x.sign, 0, rfl, ⟨_, rfl_nat x _, ?_⟩, ?_, ⟨_, rfl, hdf _ _ (Dg.zero (by decide) _)⟩, gcdP_zero x, ?_, ?_, by decide, hbw⟩
    · rw [Int.natAbs_natCast]; exact hdf _ _ ((HU.out.below HBV.out).below HB9.out)
    · refine ⟨_, sign_val (hx0) HBX.out _, ?_⟩; rw [sign_abs hx0]; exact hdf _ _ ((dg_new1 V1 _).below HB99.out)
    · rw [Int.natAbs_natCast]; exact hX9
    · exact sign_small x

/-- divisor, whatever the second integer. -/
theorem divisor_c (v1 v2 : Value) (x y : Int) (w : World) (h1 : Wh w v1 x) (h2 : Wh w v2 y) (hx : x.natAbs < 10 ^ 200) (hy : y.natAbs < 10 ^ 200) :
    Calls Tryz.prog 70 #[v1, v2] w (DivP x y w) := by
  by_cases hy0 : y = 0
  · subst hy0
    by_cases hx0 : x = 0
    · exact divisor_zz v1 v2 x w h1 h2 hx hx0
    · exact divisor_nz v1 v2 x w h1 h2 hx hx0
  · exact divisor_some v1 v2 x y w h1 h2 hx hy hy0

end Go.Proofs.YtbjgpbdkofadiaaGreatDoor
