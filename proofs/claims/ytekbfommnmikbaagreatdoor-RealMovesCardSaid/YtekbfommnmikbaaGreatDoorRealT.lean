/- Package real: Root. -/
import Derived.Test.YtekbfommnmikbaaGreatDoorRealS
namespace Go.Proofs.YtekbfommnmikbaaGreatDoor
set_option linter.unusedVariables false
set_option linter.unusedSimpArgs false
open Go.RowKit Go.Shelf Go.Proofs
attribute [local go_sem ↓] Go.wp_at_zero Go.wp_at_succ

/-- What Root returns. -/
def rootR (m e : Int) : Value :=
  if ¬ RV m.natAbs e then .tuple #[.agg #[.int .i64 0, .int .i64 0], .int .i64 1]
  else if m < 0 then .tuple #[.agg #[.int .i64 0, .int .i64 0], .int .i64 5]
  else if m = 0 then .tuple #[.agg #[.int .i64 m, .int .i64 e], .int .i64 0]
  else resR false (rootV m.natAbs e)

theorem res_form (s : Bool) (o : Option (Nat × Int)) : ∃ a b c, resR s o = .tuple #[.agg #[.int .i64 a, .int .i64 b], .int .i64 c] := by
  rcases o with _ | ⟨m, x⟩
  · exact ⟨0, 0, 3, rfl⟩
  · exact ⟨sgm s m, x, 0, rfl⟩

set_option maxRecDepth 100000 in
set_option maxHeartbeats 4000000 in
theorem rootR_c (m e : Int) (w : World) (h0 : -9223372036854775808 ≤ m) (h1 : m ≤ 9223372036854775807) :
    Calls Tryz.prog 48 #[.agg #[.int .i64 m, .int .i64 e]] w fun en w' => en = .returned (rootR m e) ∧ Below w.heap.size w w' := by
  obtain ⟨W, hW, k0, k1, hbel, hsz⟩ := bx2h w #[.int .i64 m, .int .i64 e] #[.int .i64 0, .int .i64 0] 23 23
  have HK1 := Lib.hid k1; have HBEL := Lib.hid hbel
  have c00 := cell_of_heap k0 0; have c01 := cell_of_heap k0 1
  simp at c00 c01
  have HV := Lib.hid (fun w' => validR_c m e w' h0 h1)
  clear k0 k1 hbel hsz
  have fin0 : ∀ (w2 : World) (a b : Int), Below W.heap.size W w2 → (((w2.setCell ⟨w.heap.size + 1, 0, none⟩ (.int .i64 a)).setCell ⟨w.heap.size + 1, 1, none⟩ (.int .i64 b)).cell? ⟨w.heap.size + 1, 0, none⟩ = some (.int .i64 a) ∧ ((w2.setCell ⟨w.heap.size + 1, 0, none⟩ (.int .i64 a)).setCell ⟨w.heap.size + 1, 1, none⟩ (.int .i64 b)).cell? ⟨w.heap.size + 1, 1, none⟩ = some (.int .i64 b) ∧ Below w.heap.size w ((w2.setCell ⟨w.heap.size + 1, 0, none⟩ (.int .i64 a)).setCell ⟨w.heap.size + 1, 1, none⟩ (.int .i64 b))) := fun w2 a b hb => by
    have h9 := putB (putB (heapB hb HK1.out) 0 (.int .i64 a)) 1 (.int .i64 b)
    have r0 := cell_of_heap h9 0; have r1 := cell_of_heap h9 1
    simp at r0 r1
    exact ⟨r0, r1, ((belowT HBEL.out hb).setCell (p := ⟨w.heap.size + 1, 0, none⟩) (by simp) _).setCell (p := ⟨w.heap.size + 1, 1, none⟩) (by simp) _⟩
  have FIN := Lib.hid fin0
  clear fin0
  by_cases h : RV m.natAbs e
  · have ed : decide (RV m.natAbs e) = true := decide_eq_true h
    rw [ed] at HV
    have hnn : ¬ ¬ RV m.natAbs e := fun x => x h
    by_cases n0 : m < 0
    · have hr : rootR m e = .tuple #[.agg #[.int .i64 0, .int .i64 0], .int .i64 5] := by unfold rootR; rw [if_neg hnn, if_pos n0]
      rw [hr]
      clear hr hnn ed h
      go_enter Tryz.func48, Tryz.ntmps48
      go_wp2_with (go_at_call 33; refine (HV.out _).mono ?_; rintro en w2 ⟨rfl, hbz⟩; have q := heapB hbz HK1.out; have d0 := cell_of_heap q 0; have d1 := cell_of_heap q 1; have f0 := free_of_heap q 0; have f1 := free_of_heap q 1; have c00 := keep_cell hbz c00; have c01 := keep_cell hbz c01; simp at d0 d1; have HB2 := Lib.hid hbz; clear hbz q)
      obtain ⟨r0, r1, hbb⟩ := FIN.out w2 0 0 HB2.out
      refine bodyPost_ret (v := .tuple #[.agg #[.int .i64 0, .int .i64 0], .int .i64 5]) (by simp [results, Tryz.results48, go_sem, r0, r1]) rfl ?_
      exact ⟨rfl, hbb⟩
    by_cases n1 : m = 0
    · have n2 : e = 0 := by unfold RV at h; omega
      subst n1
      subst n2
      have hr : rootR 0 0 = .tuple #[.agg #[.int .i64 0, .int .i64 0], .int .i64 0] := by unfold rootR; rw [if_neg hnn, if_neg n0, if_pos rfl]
      rw [hr]
      clear hr hnn ed h n0
      go_enter Tryz.func48, Tryz.ntmps48
      go_wp2_with (go_at_call 33; refine (HV.out _).mono ?_; rintro en w2 ⟨rfl, hbz⟩; have q := heapB hbz HK1.out; have d0 := cell_of_heap q 0; have d1 := cell_of_heap q 1; have f0 := free_of_heap q 0; have f1 := free_of_heap q 1; have c00 := keep_cell hbz c00; have c01 := keep_cell hbz c01; simp at d0 d1; have HB2 := Lib.hid hbz; clear hbz q)
      obtain ⟨r0, r1, hbb⟩ := FIN.out w2 0 0 HB2.out
      refine bodyPost_ret (v := .tuple #[.agg #[.int .i64 0, .int .i64 0], .int .i64 0]) (by simp [results, Tryz.results48, go_sem, r0, r1]) rfl ?_
      exact ⟨rfl, hbb⟩
    · have hr : rootR m e = resR false (rootV m.natAbs e) := by unfold rootR; rw [if_neg hnn, if_neg n0, if_neg n1]
      rw [hr]
      obtain ⟨M, hM⟩ : ∃ M : Nat, m = (M : Int) := ⟨m.toNat, by omega⟩
      have hMa : m.natAbs = M := by omega
      rw [hMa] at h ⊢
      have HRT := Lib.hid (fun w' => root_c M e w' h (by omega))
      have HRR := Lib.hid (fun (w' : World) (v : Value) (ha : Amt w' v false (firsts (ritem (rootL M e)) 14) (rootX M e) (lastMore (ritem (rootL M e)) 14)) => rootRounded M e w' h ha)
      obtain ⟨a, b, c, hf⟩ := res_form false (rootV M e)
      rw [hf] at HRR ⊢
      rw [← hM] at HRT
      have m1 : 0 < m := by omega
      have HMM := Lib.hid hM
      clear hr hnn ed h hMa hf hM
      go_enter Tryz.func48, Tryz.ntmps48
      go_wp2_with (first
        | (go_at_call 33; refine (HV.out _).mono ?_; rintro en w2 ⟨rfl, hbz⟩; have q := heapB hbz HK1.out; have d0 := cell_of_heap q 0; have d1 := cell_of_heap q 1; have f0 := free_of_heap q 0; have f1 := free_of_heap q 1; have c00 := keep_cell hbz c00; have c01 := keep_cell hbz c01; simp at d0 d1; have HB2 := Lib.hid hbz; clear hbz q)
        | (go_at_call 122; refine (HRT.out _).mono ?_; rintro en w3 ⟨v, rfl, ha, hbz⟩; have HA := Lib.hid ha; have HB3 := Lib.hid hbz; clear hbz ha)
        | (go_at_call 88; refine (HRR.out _ _ HA.out).mono ?_; rintro en w4 ⟨rfl, hbz⟩; have q := heapB hbz (heapB HB3.out (heapB HB2.out HK1.out)); have d0 := cell_of_heap q 0; have d1 := cell_of_heap q 1; have f0 := free_of_heap q 0; have f1 := free_of_heap q 1; simp at d0 d1; have HB4 := Lib.hid hbz; clear hbz q))
      obtain ⟨r0, r1, hbb⟩ := FIN.out w4 a b (belowT (belowT HB2.out HB3.out) HB4.out)
      refine bodyPost_ret (v := .tuple #[.agg #[.int .i64 a, .int .i64 b], .int .i64 c]) (by simp [results, Tryz.results48, go_sem, r0, r1]) rfl ?_
      exact ⟨rfl, hbb⟩
  · have ed : decide (RV m.natAbs e) = false := decide_eq_false h
    rw [ed] at HV
    have hr : rootR m e = .tuple #[.agg #[.int .i64 0, .int .i64 0], .int .i64 1] := by unfold rootR; rw [if_pos h]
    rw [hr]
    clear ed h hr
    go_enter Tryz.func48, Tryz.ntmps48
    go_wp2_with (go_at_call 33; refine (HV.out _).mono ?_; rintro en w2 ⟨rfl, hbz⟩; have q := heapB hbz HK1.out; have d0 := cell_of_heap q 0; have d1 := cell_of_heap q 1; have f0 := free_of_heap q 0; have f1 := free_of_heap q 1; have c00 := keep_cell hbz c00; have c01 := keep_cell hbz c01; simp at d0 d1; have HB2 := Lib.hid hbz; clear hbz q)
    obtain ⟨r0, r1, hbb⟩ := FIN.out w2 0 0 HB2.out
    refine bodyPost_ret (v := .tuple #[.agg #[.int .i64 0, .int .i64 0], .int .i64 1]) (by simp [results, Tryz.results48, go_sem, r0, r1]) rfl ?_
    exact ⟨rfl, hbb⟩
end Go.Proofs.YtekbfommnmikbaaGreatDoor
