/- Package real: Cmp, Neg. -/
import Derived.Test.YtekbfommnmikbaaGreatDoorRealQ
namespace Go.Proofs.YtekbfommnmikbaaGreatDoor
set_option linter.unusedVariables false
set_option linter.unusedSimpArgs false
open Go.RowKit Go.Shelf Go.Proofs
attribute [local go_sem ↓] Go.wp_at_zero Go.wp_at_succ

set_option maxRecDepth 100000 in
set_option maxHeartbeats 4000000 in
theorem negR_c (m e : Int) (w : World) (h0 : -9223372036854775808 ≤ m) (h1 : m ≤ 9223372036854775807) :
    Calls Tryz.prog 43 #[.agg #[.int .i64 m, .int .i64 e]] w fun en w' => en = .returned (if RV m.natAbs e then .tuple #[.agg #[.int .i64 (-m), .int .i64 e], .int .i64 0] else .tuple #[.agg #[.int .i64 0, .int .i64 0], .int .i64 1]) ∧ Below w.heap.size w w' := by
  obtain ⟨W, hW, k0, k1, hbel, hsz⟩ := bx2h w #[.int .i64 m, .int .i64 e] #[.int .i64 0, .int .i64 0] 23 23
  have HK0 := Lib.hid k0; have HK1 := Lib.hid k1; have HBEL := Lib.hid hbel
  have c00 := cell_of_heap k0 0; have c01 := cell_of_heap k0 1
  simp at c00 c01
  have HV := Lib.hid (fun w' => validR_c m e w' h0 h1)
  clear k0 k1 hbel hsz
  by_cases h : RV m.natAbs e
  · have ed : decide (RV m.natAbs e) = true := decide_eq_true h
    rw [ed] at HV
    rw [if_pos h]
    obtain ⟨a1, -, -⟩ := RV_abs h
    have m1 : -9223372036854775807 ≤ m := by omega
    have m2 : m ≤ 9223372036854775807 := h1
    clear ed h
    go_enter Tryz.func43, Tryz.ntmps43
    go_wp2_with (first
      | (go_at_call 33; refine (HV.out _).mono ?_; rintro en w2 ⟨rfl, hbz⟩; have c00 := keep_cell hbz c00; have c01 := keep_cell hbz c01; have HB2 := Lib.hid hbz; clear hbz)
      | (go_at_call 113; refine (negated_c m e _ m1 m2).mono ?_; rintro en w3 ⟨rfl, hbz⟩; have q := heapB hbz (heapB HB2.out HK1.out); have d0 := cell_of_heap q 0; have d1 := cell_of_heap q 1; have f0 := free_of_heap q 0; have f1 := free_of_heap q 1; simp at d0 d1; have HQ := Lib.hid q; have HB3 := Lib.hid hbz; clear hbz q))
    have h9 := putB (putB HQ.out 0 (.int .i64 (-m))) 1 (.int .i64 e)
    have r0 := cell_of_heap h9 0; have r1 := cell_of_heap h9 1
    simp at r0 r1
    refine bodyPost_ret (v := .tuple #[.agg #[.int .i64 (-m), .int .i64 e], .int .i64 0]) (by simp [results, Tryz.results43, go_sem, r0, r1]) rfl ?_
    exact ⟨rfl, ((belowT (belowT HBEL.out HB2.out) HB3.out).setCell (p := ⟨w.heap.size + 1, 0, none⟩) (by simp) _).setCell (p := ⟨w.heap.size + 1, 1, none⟩) (by simp) _⟩
  · have ed : decide (RV m.natAbs e) = false := decide_eq_false h
    rw [ed] at HV
    rw [if_neg h]
    clear ed h
    go_enter Tryz.func43, Tryz.ntmps43
    go_wp2_with (go_at_call 33; refine (HV.out _).mono ?_; rintro en w2 ⟨rfl, hbz⟩; have q := heapB hbz HK1.out; have d0 := cell_of_heap q 0; have d1 := cell_of_heap q 1; have f0 := free_of_heap q 0; have f1 := free_of_heap q 1; simp at d0 d1; have HQ := Lib.hid q; have HB2 := Lib.hid hbz; clear hbz q)
    have h9 := putB (putB HQ.out 0 (.int .i64 0)) 1 (.int .i64 0)
    have r0 := cell_of_heap h9 0; have r1 := cell_of_heap h9 1
    simp at r0 r1
    refine bodyPost_ret (v := .tuple #[.agg #[.int .i64 0, .int .i64 0], .int .i64 1]) (by simp [results, Tryz.results43, go_sem, r0, r1]) rfl ?_
    exact ⟨rfl, ((belowT HBEL.out HB2.out).setCell (p := ⟨w.heap.size + 1, 0, none⟩) (by simp) _).setCell (p := ⟨w.heap.size + 1, 1, none⟩) (by simp) _⟩

set_option maxRecDepth 100000 in
set_option maxHeartbeats 4000000 in
theorem cmpR_c (xm xe ym ye : Int) (w : World) (hx0 : -9223372036854775808 ≤ xm) (hx1 : xm ≤ 9223372036854775807) (hy0 : -9223372036854775808 ≤ ym) (hy1 : ym ≤ 9223372036854775807) :
    Calls Tryz.prog 42 #[.agg #[.int .i64 xm, .int .i64 xe], .agg #[.int .i64 ym, .int .i64 ye]] w fun en w' => en = .returned (if RV ym.natAbs ye ∧ RV xm.natAbs xe then .tuple #[.int .i64 (max (-1) (min (plR xm xe - plR ym ye) 1)), .int .i64 0] else .tuple #[.int .i64 0, .int .i64 1]) ∧ Below w.heap.size w w' := by
  obtain ⟨W, hW, k0, k1, hbel, hsz⟩ := bx2h w #[.int .i64 xm, .int .i64 xe] #[.int .i64 ym, .int .i64 ye] 23 23
  have HBEL := Lib.hid hbel
  have c00 := cell_of_heap k0 0; have c01 := cell_of_heap k0 1; have c10 := cell_of_heap k1 0; have c11 := cell_of_heap k1 1
  simp at c00 c01 c10 c11
  have HST := Lib.hid (fun w' => steps_c ym ye xm xe w' hy0 hy1 hx0 hx1)
  clear k0 k1 hbel hsz
  by_cases h : RV ym.natAbs ye ∧ RV xm.natAbs xe
  · rw [if_pos h] at HST ⊢
    obtain ⟨n, hn⟩ : ∃ n, plR xm xe - plR ym ye = n := ⟨_, rfl⟩
    rw [hn] at HST ⊢
    clear hn h
    go_enter Tryz.func42, Tryz.ntmps42
    go_wp2_with (go_at_call 57; refine (HST.out _).mono ?_; rintro en w2 ⟨rfl, hbz⟩; have HB2 := Lib.hid hbz; clear hbz)
    go_ret2
    exact ⟨rfl, belowT HBEL.out HB2.out⟩
  · rw [if_neg h] at HST ⊢
    clear h
    go_enter Tryz.func42, Tryz.ntmps42
    go_wp2_with (go_at_call 57; refine (HST.out _).mono ?_; rintro en w2 ⟨rfl, hbz⟩; have HB2 := Lib.hid hbz; clear hbz)
    go_ret2
    exact ⟨rfl, belowT HBEL.out HB2.out⟩

/-- What Step returns. -/
def stepR (m e n : Int) : Value :=
  if ¬ RV m.natAbs e then .tuple #[.agg #[.int .i64 0, .int .i64 0], .int .i64 1]
  else if 360000000000000 < n ∨ n < -360000000000000 then .tuple #[.agg #[.int .i64 0, .int .i64 0], .int .i64 3]
  else if 180000000000000 < plR m e + n ∨ plR m e + n < -180000000000000 then .tuple #[.agg #[.int .i64 0, .int .i64 0], .int .i64 3]
  else .tuple #[.agg #[.int .i64 (byR (plR m e + n)).1, .int .i64 (byR (plR m e + n)).2], .int .i64 0]

set_option maxRecDepth 100000 in
set_option maxHeartbeats 4000000 in
theorem stepR_c (m e n : Int) (w : World) (h0 : -9223372036854775808 ≤ m) (h1 : m ≤ 9223372036854775807) :
    Calls Tryz.prog 56 #[.agg #[.int .i64 m, .int .i64 e], .int .i64 n] w fun en w' => en = .returned (stepR m e n) ∧ Below w.heap.size w w' := by
  obtain ⟨W, hW, k0, k1, hbel, hsz⟩ := bx2h w #[.int .i64 m, .int .i64 e] #[.int .i64 0, .int .i64 0] 23 23
  have HK1 := Lib.hid k1; have HBEL := Lib.hid hbel
  have c00 := cell_of_heap k0 0; have c01 := cell_of_heap k0 1
  simp at c00 c01
  have HV := Lib.hid (fun w' => validR_c m e w' h0 h1)
  clear k0 k1 hbel hsz
  have fin0 : ∀ (w2 : World) (k : Int), Below W.heap.size W w2 → Hid (((w2.setCell ⟨w.heap.size + 1, 0, none⟩ (.int .i64 0)).setCell ⟨w.heap.size + 1, 1, none⟩ (.int .i64 0)).cell? ⟨w.heap.size + 1, 0, none⟩ = some (.int .i64 0) ∧ ((w2.setCell ⟨w.heap.size + 1, 0, none⟩ (.int .i64 0)).setCell ⟨w.heap.size + 1, 1, none⟩ (.int .i64 0)).cell? ⟨w.heap.size + 1, 1, none⟩ = some (.int .i64 0) ∧ Below w.heap.size w ((w2.setCell ⟨w.heap.size + 1, 0, none⟩ (.int .i64 0)).setCell ⟨w.heap.size + 1, 1, none⟩ (.int .i64 0))) := fun w2 k hb => by
    have h9 := putB (putB (heapB hb HK1.out) 0 (.int .i64 0)) 1 (.int .i64 0)
    have r0 := cell_of_heap h9 0; have r1 := cell_of_heap h9 1
    simp at r0 r1
    exact ⟨r0, r1, ((belowT HBEL.out hb).setCell (p := ⟨w.heap.size + 1, 0, none⟩) (by simp) _).setCell (p := ⟨w.heap.size + 1, 1, none⟩) (by simp) _⟩
  have FIN := Lib.hid fin0
  clear fin0
  by_cases h : RV m.natAbs e
  · have ed : decide (RV m.natAbs e) = true := decide_eq_true h
    rw [ed] at HV
    obtain ⟨b1, b2⟩ := plR_bounds h
    have HPL := Lib.hid (fun w' => place_c m e w' h)
    have hnn : ¬ ¬ RV m.natAbs e := fun x => x h
    by_cases a : 360000000000000 < n ∨ n < -360000000000000
    · have hr : stepR m e n = .tuple #[.agg #[.int .i64 0, .int .i64 0], .int .i64 3] := by unfold stepR; rw [if_neg hnn, if_pos a]
      rw [hr]
      clear hr hnn ed h
      have hcase : 360000000000000 < n ∨ (¬ 360000000000000 < n ∧ n < -360000000000000) := by omega
      clear a
      go_enter Tryz.func56, Tryz.ntmps56
      rcases hcase with a1 | ⟨a1, a2⟩
      all_goals
        go_wp2_with (go_at_call 33; refine (HV.out _).mono ?_; rintro en w2 ⟨rfl, hbz⟩; have q := heapB hbz HK1.out; have d0 := cell_of_heap q 0; have d1 := cell_of_heap q 1; have f0 := free_of_heap q 0; have f1 := free_of_heap q 1; have c00 := keep_cell hbz c00; have c01 := keep_cell hbz c01; simp at d0 d1; have HB2 := Lib.hid hbz; clear hbz q)
        obtain ⟨r0, r1, hbb⟩ := (FIN.out w2 0 HB2.out).out
        refine bodyPost_ret (v := .tuple #[.agg #[.int .i64 0, .int .i64 0], .int .i64 3]) (by simp [results, Tryz.results56, go_sem, r0, r1]) rfl ?_
        exact ⟨rfl, hbb⟩
    have a1 : ¬ 360000000000000 < n := by omega
    have a2 : ¬ n < -360000000000000 := by omega
    by_cases c : 180000000000000 < plR m e + n ∨ plR m e + n < -180000000000000
    · have hr : stepR m e n = .tuple #[.agg #[.int .i64 0, .int .i64 0], .int .i64 3] := by unfold stepR; rw [if_neg hnn, if_neg a, if_pos c]
      rw [hr]
      obtain ⟨p, hp⟩ : ∃ p, plR m e = p := ⟨_, rfl⟩
      rw [hp] at HPL b1 b2 c
      clear hr hnn ed h hp a
      have hcase : 180000000000000 < p + n ∨ (¬ 180000000000000 < p + n ∧ p + n < -180000000000000) := by omega
      clear c
      go_enter Tryz.func56, Tryz.ntmps56
      rcases hcase with k1 | ⟨k1, k2⟩
      all_goals
        go_wp2_with (first | (go_at_call 33; refine (HV.out _).mono ?_; rintro en w2 ⟨rfl, hbz⟩; have q := heapB hbz HK1.out; have d0 := cell_of_heap q 0; have d1 := cell_of_heap q 1; have f0 := free_of_heap q 0; have f1 := free_of_heap q 1; have c00 := keep_cell hbz c00; have c01 := keep_cell hbz c01; simp at d0 d1; have HB2 := Lib.hid hbz; clear hbz q) | (go_at_call 129; refine (HPL.out _).mono ?_; rintro en w3 ⟨rfl, hbz⟩; have q := heapB hbz (heapB HB2.out HK1.out); have d0 := cell_of_heap q 0; have d1 := cell_of_heap q 1; have f0 := free_of_heap q 0; have f1 := free_of_heap q 1; simp at d0 d1; have HB3 := Lib.hid hbz; clear hbz q))
        obtain ⟨r0, r1, hbb⟩ := (FIN.out w3 0 (belowT HB2.out HB3.out)).out
        refine bodyPost_ret (v := .tuple #[.agg #[.int .i64 0, .int .i64 0], .int .i64 3]) (by simp [results, Tryz.results56, go_sem, r0, r1]) rfl ?_
        exact ⟨rfl, hbb⟩
    · have hr : stepR m e n = .tuple #[.agg #[.int .i64 (byR (plR m e + n)).1, .int .i64 (byR (plR m e + n)).2], .int .i64 0] := by unfold stepR; rw [if_neg hnn, if_neg a, if_neg c]
      rw [hr]
      obtain ⟨p, hp⟩ : ∃ p, plR m e = p := ⟨_, rfl⟩
      rw [hp] at HPL b1 b2 c ⊢
      have k1 : ¬ 180000000000000 < p + n := by omega
      have k2 : ¬ p + n < -180000000000000 := by omega
      have HPD := Lib.hid (fun w' => placed_c (p + n) w' (by omega) (by omega))
      obtain ⟨⟨x, y⟩, hxy⟩ : ∃ q, byR (p + n) = q := ⟨_, rfl⟩
      rw [hxy] at HPD ⊢
      dsimp only at HPD ⊢
      clear hr hnn ed h hp a c hxy
      go_enter Tryz.func56, Tryz.ntmps56
      go_wp2_with (first | (go_at_call 33; refine (HV.out _).mono ?_; rintro en w2 ⟨rfl, hbz⟩; have q := heapB hbz HK1.out; have d0 := cell_of_heap q 0; have d1 := cell_of_heap q 1; have f0 := free_of_heap q 0; have f1 := free_of_heap q 1; have c00 := keep_cell hbz c00; have c01 := keep_cell hbz c01; simp at d0 d1; have HB2 := Lib.hid hbz; clear hbz q) | (go_at_call 129; refine (HPL.out _).mono ?_; rintro en w3 ⟨rfl, hbz⟩; have q := heapB hbz (heapB HB2.out HK1.out); have d0 := cell_of_heap q 0; have d1 := cell_of_heap q 1; have f0 := free_of_heap q 0; have f1 := free_of_heap q 1; simp at d0 d1; have HB3 := Lib.hid hbz; clear hbz q) | (go_at_call 130; refine (HPD.out _).mono ?_; rintro en w4 ⟨rfl, hbz⟩; have q := heapB hbz (heapB HB3.out (heapB HB2.out HK1.out)); have d0 := cell_of_heap q 0; have d1 := cell_of_heap q 1; have f0 := free_of_heap q 0; have f1 := free_of_heap q 1; simp at d0 d1; have HQ := Lib.hid q; have HB4 := Lib.hid hbz; clear hbz q))
      have h9 := putB (putB HQ.out 0 (.int .i64 x)) 1 (.int .i64 y)
      have r0 := cell_of_heap h9 0; have r1 := cell_of_heap h9 1
      simp at r0 r1
      refine bodyPost_ret (v := .tuple #[.agg #[.int .i64 x, .int .i64 y], .int .i64 0]) (by simp [results, Tryz.results56, go_sem, r0, r1]) rfl ?_
      exact ⟨rfl, ((belowT (belowT (belowT HBEL.out HB2.out) HB3.out) HB4.out).setCell (p := ⟨w.heap.size + 1, 0, none⟩) (by simp) _).setCell (p := ⟨w.heap.size + 1, 1, none⟩) (by simp) _⟩
  · have ed : decide (RV m.natAbs e) = false := decide_eq_false h
    rw [ed] at HV
    have hr : stepR m e n = .tuple #[.agg #[.int .i64 0, .int .i64 0], .int .i64 1] := by unfold stepR; rw [if_pos h]
    rw [hr]
    clear ed h hr
    go_enter Tryz.func56, Tryz.ntmps56
    go_wp2_with (go_at_call 33; refine (HV.out _).mono ?_; rintro en w2 ⟨rfl, hbz⟩; have q := heapB hbz HK1.out; have d0 := cell_of_heap q 0; have d1 := cell_of_heap q 1; have f0 := free_of_heap q 0; have f1 := free_of_heap q 1; simp at d0 d1; have HB2 := Lib.hid hbz; clear hbz q)
    obtain ⟨r0, r1, hbb⟩ := (FIN.out w2 0 HB2.out).out
    refine bodyPost_ret (v := .tuple #[.agg #[.int .i64 0, .int .i64 0], .int .i64 1]) (by simp [results, Tryz.results56, go_sem, r0, r1]) rfl ?_
    exact ⟨rfl, hbb⟩
end Go.Proofs.YtekbfommnmikbaaGreatDoor
