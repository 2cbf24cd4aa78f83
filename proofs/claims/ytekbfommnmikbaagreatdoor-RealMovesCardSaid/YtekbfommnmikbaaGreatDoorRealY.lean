/- Package real: Add, Sub, Mul, Div. -/
import Derived.Test.YtekbfommnmikbaaGreatDoorRealV
namespace Go.Proofs.YtekbfommnmikbaaGreatDoor
set_option linter.unusedVariables false
set_option linter.unusedSimpArgs false
open Go.RowKit Go.Shelf Go.Proofs
attribute [local go_sem ↓] Go.wp_at_zero Go.wp_at_succ

/-- The exact product, rounded. -/
def prodR (xm xe ym ye : Int) : Value := resR (decide (xm < 0) != decide (ym < 0)) (rnd (xm.natAbs * ym.natAbs * 10 ^ (xe + ye + 222).toNat) (-222))
/-- The quotient, rounded. -/
def quoV (xm xe ym ye : Int) : Option (Nat × Int) := rnd (vd (withMore (firsts (qitem xm.natAbs ym.natAbs) 14) (lastMore (qitem xm.natAbs ym.natAbs) 14))).toNat (expMore (xe - ye - 13) (lastMore (qitem xm.natAbs ym.natAbs) 14))
def quoR (xm xe ym ye : Int) : Value := resR (decide (xm < 0) != decide (ym < 0)) (quoV xm xe ym ye)

theorem prod_R (xm xe ym ye : Int) (w : World) (hx : RV xm.natAbs xe) (hy : RV ym.natAbs ye) :
    Calls Tryz.prog 119 #[.agg #[.int .i64 xm, .int .i64 xe], .agg #[.int .i64 ym, .int .i64 ye]] w fun en w' => ∃ v, en = .returned v ∧ AmtR w' v (prodR xm xe ym ye) ∧ Below w.heap.size w w' := by
  have h1 := RV_abs hx
  have h2 := RV_abs hy
  obtain ⟨P, hP⟩ : ∃ P : Nat, xe + ye + 222 = (P : Int) := ⟨(xe + ye + 222).toNat, by omega⟩
  refine (product_c xm xe ym ye w hx hy P hP).mono ?_
  rintro en w' ⟨v, ds, rfl, ha, hi, hd, hn, hb⟩
  refine ⟨v, rfl, ⟨_, ds, _, _, ha, hi, by omega, by omega, by omega, ?_⟩, hb⟩
  unfold prodR
  rw [show withMore ds false = ds from rfl, show expMore (-222) false = -222 from rfl, hd, Int.toNat_natCast, hP, Int.toNat_natCast]
theorem quo_R (xm xe ym ye : Int) (w : World) (hx : RV xm.natAbs xe) (hy : RV ym.natAbs ye) (hy0 : ym ≠ 0) :
    Calls Tryz.prog 121 #[.agg #[.int .i64 xm, .int .i64 xe], .agg #[.int .i64 ym, .int .i64 ye]] w fun en w' => ∃ v, en = .returned v ∧ AmtR w' v (quoR xm xe ym ye) ∧ Below w.heap.size w w' := by
  refine (quotient_c xm xe ym ye w hx hy hy0).mono ?_
  rintro en w' ⟨v, rfl, ha, hb⟩
  have h1 := RV_abs hx
  have h2 := RV_abs hy
  have hM : xm.natAbs < 10 * ym.natAbs := by unfold RV at hx hy; omega
  exact ⟨v, rfl, ⟨_, _, _, _, ha, firsts_inR (qitem_dig (by omega) hM) 14, by rw [firsts_length]; omega, by omega, by omega, rfl⟩, hb⟩
theorem done_form (xm xe ym ye r : Int) (R : Value) (hR : ∃ a b c, R = .tuple #[.agg #[.int .i64 a, .int .i64 b], .int .i64 c]) : ∃ a b c, doneR xm xe ym ye r R = .tuple #[.agg #[.int .i64 a, .int .i64 b], .int .i64 c] := by
  unfold doneR
  split
  · split
    · exact hR
    · exact ⟨_, _, _, rfl⟩
  · exact ⟨_, _, _, rfl⟩

/-- What Add returns. -/
def addX (xm xe ym ye : Int) : Value := doneR xm xe ym ye 0 (sumR [(xm, xe), (ym, ye)])
set_option maxRecDepth 100000 in
set_option maxHeartbeats 2000000 in
theorem addX_c (xm xe ym ye : Int) (w : World) (hx0 : -9223372036854775808 ≤ xm) (hx1 : xm ≤ 9223372036854775807) (hy0 : -9223372036854775808 ≤ ym) (hy1 : ym ≤ 9223372036854775807) :
    Calls Tryz.prog 34 #[.agg #[.int .i64 xm, .int .i64 xe], .agg #[.int .i64 ym, .int .i64 ye]] w fun en w' => en = .returned (addX xm xe ym ye) ∧ Below w.heap.size w w' := by
  obtain ⟨W, hW, k0, k1, k2, hbel⟩ := bx3h w #[.int .i64 xm, .int .i64 xe] #[.int .i64 ym, .int .i64 ye] #[.int .i64 0, .int .i64 0] 23 23 23
  have HBEL := Lib.hid hbel
  have FIN := fin2 k2 (by omega) hbel
  have BOX := box2 k2
  have c00 := cell_of_heap k0 0; have c01 := cell_of_heap k0 1; have c10 := cell_of_heap k1 0; have c11 := cell_of_heap k1 1
  simp at c00 c01 c10 c11
  have HD := Lib.hid (fun w' => done_c 108 109 xm xe ym ye 0 (sumR [(xm, xe), (ym, ye)]) w' hx0 hx1 hy0 hy1 (enters_of Tryz.func108 (by kernel_rfl) rfl) (enters_of Tryz.func109 (by kernel_rfl) rfl) (fun _ _ w2 => fine_c xm xe ym ye w2) (fun hx hy hr w2 => addf_c xm xe ym ye w2 hx hy) (res_sumR _))
  obtain ⟨a, b, c, hf⟩ : ∃ a b c, addX xm xe ym ye = .tuple #[.agg #[.int .i64 a, .int .i64 b], .int .i64 c] := done_form _ _ _ _ _ _ (res_sumR _)
  have hf' : doneR xm xe ym ye 0 (sumR [(xm, xe), (ym, ye)]) = .tuple #[.agg #[.int .i64 a, .int .i64 b], .int .i64 c] := hf
  rw [hf'] at HD
  rw [hf]
  clear k0 k1 k2 hbel hx0 hx1 hy0 hy1 hf hf'
  go_enter Tryz.func34, Tryz.ntmps34
  go_wp2_with (first
    | (go_at_call 111; (with_reducible refine (HD.out _).mono ?_); rintro en w2 ⟨rfl, hbz⟩; obtain ⟨b0, b1, b2, b3⟩ := BOX.out _ hbz; have HB := Lib.hid hbz; clear hbz))
  obtain ⟨r0, r1, hbb⟩ := FIN.out _ a b HB.out
  refine bodyPost_ret (v := .tuple #[.agg #[.int .i64 a, .int .i64 b], .int .i64 c]) (by simp [results, Tryz.results34, go_sem, r0, r1]) rfl ?_
  exact ⟨rfl, hbb⟩

/-- What Sub returns. -/
def subX (xm xe ym ye : Int) : Value := doneR xm xe ym ye 0 (sumR [(xm, xe), (-ym, ye)])
set_option maxRecDepth 100000 in
set_option maxHeartbeats 2000000 in
theorem subX_c (xm xe ym ye : Int) (w : World) (hx0 : -9223372036854775808 ≤ xm) (hx1 : xm ≤ 9223372036854775807) (hy0 : -9223372036854775808 ≤ ym) (hy1 : ym ≤ 9223372036854775807) :
    Calls Tryz.prog 35 #[.agg #[.int .i64 xm, .int .i64 xe], .agg #[.int .i64 ym, .int .i64 ye]] w fun en w' => en = .returned (subX xm xe ym ye) ∧ Below w.heap.size w w' := by
  obtain ⟨W, hW, k0, k1, k2, hbel⟩ := bx3h w #[.int .i64 xm, .int .i64 xe] #[.int .i64 ym, .int .i64 ye] #[.int .i64 0, .int .i64 0] 23 23 23
  have HBEL := Lib.hid hbel
  have FIN := fin2 k2 (by omega) hbel
  have BOX := box2 k2
  have c00 := cell_of_heap k0 0; have c01 := cell_of_heap k0 1; have c10 := cell_of_heap k1 0; have c11 := cell_of_heap k1 1
  simp at c00 c01 c10 c11
  have HD := Lib.hid (fun w' => done_c 108 112 xm xe ym ye 0 (sumR [(xm, xe), (-ym, ye)]) w' hx0 hx1 hy0 hy1 (enters_of Tryz.func108 (by kernel_rfl) rfl) (enters_of Tryz.func112 (by kernel_rfl) rfl) (fun _ _ w2 => fine_c xm xe ym ye w2) (fun hx hy hr w2 => subf_c xm xe ym ye w2 hx hy) (res_sumR _))
  obtain ⟨a, b, c, hf⟩ : ∃ a b c, subX xm xe ym ye = .tuple #[.agg #[.int .i64 a, .int .i64 b], .int .i64 c] := done_form _ _ _ _ _ _ (res_sumR _)
  have hf' : doneR xm xe ym ye 0 (sumR [(xm, xe), (-ym, ye)]) = .tuple #[.agg #[.int .i64 a, .int .i64 b], .int .i64 c] := hf
  rw [hf'] at HD
  rw [hf]
  clear k0 k1 k2 hbel hx0 hx1 hy0 hy1 hf hf'
  go_enter Tryz.func35, Tryz.ntmps35
  go_wp2_with (first
    | (go_at_call 111; (with_reducible refine (HD.out _).mono ?_); rintro en w2 ⟨rfl, hbz⟩; obtain ⟨b0, b1, b2, b3⟩ := BOX.out _ hbz; have HB := Lib.hid hbz; clear hbz))
  obtain ⟨r0, r1, hbb⟩ := FIN.out _ a b HB.out
  refine bodyPost_ret (v := .tuple #[.agg #[.int .i64 a, .int .i64 b], .int .i64 c]) (by simp [results, Tryz.results35, go_sem, r0, r1]) rfl ?_
  exact ⟨rfl, hbb⟩

/-- What Mul returns. -/
def mulX (xm xe ym ye : Int) : Value := doneR xm xe ym ye 0 (prodR xm xe ym ye)
set_option maxRecDepth 100000 in
set_option maxHeartbeats 2000000 in
theorem mulX_c (xm xe ym ye : Int) (w : World) (hx0 : -9223372036854775808 ≤ xm) (hx1 : xm ≤ 9223372036854775807) (hy0 : -9223372036854775808 ≤ ym) (hy1 : ym ≤ 9223372036854775807) :
    Calls Tryz.prog 46 #[.agg #[.int .i64 xm, .int .i64 xe], .agg #[.int .i64 ym, .int .i64 ye]] w fun en w' => en = .returned (mulX xm xe ym ye) ∧ Below w.heap.size w w' := by
  obtain ⟨W, hW, k0, k1, k2, hbel⟩ := bx3h w #[.int .i64 xm, .int .i64 xe] #[.int .i64 ym, .int .i64 ye] #[.int .i64 0, .int .i64 0] 23 23 23
  have HBEL := Lib.hid hbel
  have FIN := fin2 k2 (by omega) hbel
  have BOX := box2 k2
  have c00 := cell_of_heap k0 0; have c01 := cell_of_heap k0 1; have c10 := cell_of_heap k1 0; have c11 := cell_of_heap k1 1
  simp at c00 c01 c10 c11
  have HD := Lib.hid (fun w' => done_c 108 119 xm xe ym ye 0 (prodR xm xe ym ye) w' hx0 hx1 hy0 hy1 (enters_of Tryz.func108 (by kernel_rfl) rfl) (enters_of Tryz.func119 (by kernel_rfl) rfl) (fun _ _ w2 => fine_c xm xe ym ye w2) (fun hx hy hr w2 => prod_R xm xe ym ye w2 hx hy) (res_form _ _))
  obtain ⟨a, b, c, hf⟩ : ∃ a b c, mulX xm xe ym ye = .tuple #[.agg #[.int .i64 a, .int .i64 b], .int .i64 c] := done_form _ _ _ _ _ _ (res_form _ _)
  have hf' : doneR xm xe ym ye 0 (prodR xm xe ym ye) = .tuple #[.agg #[.int .i64 a, .int .i64 b], .int .i64 c] := hf
  rw [hf'] at HD
  rw [hf]
  clear k0 k1 k2 hbel hx0 hx1 hy0 hy1 hf hf'
  go_enter Tryz.func46, Tryz.ntmps46
  go_wp2_with (first
    | (go_at_call 111; (with_reducible refine (HD.out _).mono ?_); rintro en w2 ⟨rfl, hbz⟩; obtain ⟨b0, b1, b2, b3⟩ := BOX.out _ hbz; have HB := Lib.hid hbz; clear hbz))
  obtain ⟨r0, r1, hbb⟩ := FIN.out _ a b HB.out
  refine bodyPost_ret (v := .tuple #[.agg #[.int .i64 a, .int .i64 b], .int .i64 c]) (by simp [results, Tryz.results46, go_sem, r0, r1]) rfl ?_
  exact ⟨rfl, hbb⟩

/-- What Div returns. -/
def divX (xm xe ym ye : Int) : Value := doneR xm xe ym ye (if ym = 0 then 5 else 0) (quoR xm xe ym ye)
set_option maxRecDepth 100000 in
set_option maxHeartbeats 2000000 in
theorem divX_c (xm xe ym ye : Int) (w : World) (hx0 : -9223372036854775808 ≤ xm) (hx1 : xm ≤ 9223372036854775807) (hy0 : -9223372036854775808 ≤ ym) (hy1 : ym ≤ 9223372036854775807) :
    Calls Tryz.prog 47 #[.agg #[.int .i64 xm, .int .i64 xe], .agg #[.int .i64 ym, .int .i64 ye]] w fun en w' => en = .returned (divX xm xe ym ye) ∧ Below w.heap.size w w' := by
  obtain ⟨W, hW, k0, k1, k2, hbel⟩ := bx3h w #[.int .i64 xm, .int .i64 xe] #[.int .i64 ym, .int .i64 ye] #[.int .i64 0, .int .i64 0] 23 23 23
  have HBEL := Lib.hid hbel
  have FIN := fin2 k2 (by omega) hbel
  have BOX := box2 k2
  have c00 := cell_of_heap k0 0; have c01 := cell_of_heap k0 1; have c10 := cell_of_heap k1 0; have c11 := cell_of_heap k1 1
  simp at c00 c01 c10 c11
  have HD := Lib.hid (fun w' => done_c 120 121 xm xe ym ye (if ym = 0 then 5 else 0) (quoR xm xe ym ye) w' hx0 hx1 hy0 hy1 (enters_of Tryz.func120 (by kernel_rfl) rfl) (enters_of Tryz.func121 (by kernel_rfl) rfl) (fun _ _ w2 => divf_c xm xe ym ye w2) (fun hx hy hr w2 => quo_R xm xe ym ye w2 hx hy (fun e => by rw [if_pos e] at hr; cases hr)) (res_form _ _))
  obtain ⟨a, b, c, hf⟩ : ∃ a b c, divX xm xe ym ye = .tuple #[.agg #[.int .i64 a, .int .i64 b], .int .i64 c] := done_form _ _ _ _ _ _ (res_form _ _)
  have hf' : doneR xm xe ym ye (if ym = 0 then 5 else 0) (quoR xm xe ym ye) = .tuple #[.agg #[.int .i64 a, .int .i64 b], .int .i64 c] := hf
  rw [hf'] at HD
  rw [hf]
  clear k0 k1 k2 hbel hx0 hx1 hy0 hy1 hf hf'
  go_enter Tryz.func47, Tryz.ntmps47
  go_wp2_with (first
    | (go_at_call 111; (with_reducible refine (HD.out _).mono ?_); rintro en w2 ⟨rfl, hbz⟩; obtain ⟨b0, b1, b2, b3⟩ := BOX.out _ hbz; have HB := Lib.hid hbz; clear hbz))
  obtain ⟨r0, r1, hbb⟩ := FIN.out _ a b HB.out
  refine bodyPost_ret (v := .tuple #[.agg #[.int .i64 a, .int .i64 b], .int .i64 c]) (by simp [results, Tryz.results47, go_sem, r0, r1]) rfl ?_
  exact ⟨rfl, hbb⟩
end Go.Proofs.YtekbfommnmikbaaGreatDoor
