/- Package real: Scale. -/
import Derived.Test.YtekbfommnmikbaaGreatDoorRealW
namespace Go.Proofs.YtekbfommnmikbaaGreatDoor
set_option linter.unusedVariables false
set_option linter.unusedSimpArgs false
open Go.RowKit Go.Shelf Go.Proofs
attribute [local go_sem ↓] Go.wp_at_zero Go.wp_at_succ

/-- What Scale returns. -/
def scaleR (m e n : Int) : Value :=
  if ¬ RV m.natAbs e then .tuple #[.agg #[.int .i64 0, .int .i64 0], .int .i64 1]
  else if 1000 < n ∨ n < -1000 then .tuple #[.agg #[.int .i64 0, .int .i64 0], .int .i64 1]
  else resR (decide (m < 0)) (rnd m.natAbs (e + n))

set_option maxRecDepth 100000 in
set_option maxHeartbeats 4000000 in
theorem scaleR_c (m e n : Int) (w : World) (h0 : -9223372036854775808 ≤ m) (h1 : m ≤ 9223372036854775807) :
    Calls Tryz.prog 18 #[.agg #[.int .i64 m, .int .i64 e], .int .i64 n] w fun en w' => en = .returned (scaleR m e n) ∧ Below w.heap.size w w' := by
  obtain ⟨W, hW, k0, k1, hbel, hsz⟩ := bx2h w #[.int .i64 m, .int .i64 e] #[.int .i64 0, .int .i64 0] 23 23
  have HBEL := Lib.hid hbel
  have FIN := fin2 k1 (by omega) hbel
  have BOX := box2 k1
  have c00 := cell_of_heap k0 0; have c01 := cell_of_heap k0 1
  simp at c00 c01
  have HV := Lib.hid (fun w' => validR_c m e w' h0 h1)
  clear k0 k1 hbel hsz
  by_cases h : RV m.natAbs e
  · rw [show decide (RV m.natAbs e) = true from decide_eq_true h] at HV
    have hnn : ¬ ¬ RV m.natAbs e := fun x => x h
    by_cases a : 1000 < n ∨ n < -1000
    · have hr : scaleR m e n = .tuple #[.agg #[.int .i64 0, .int .i64 0], .int .i64 1] := by unfold scaleR; rw [if_neg hnn, if_pos a]
      rw [hr]
      have hcase : 1000 < n ∨ (¬ 1000 < n ∧ n < -1000) := by omega
      clear hr hnn h a
      go_enter Tryz.func18, Tryz.ntmps18
      rcases hcase with a1 | ⟨a1, a2⟩
      all_goals
        go_wp2_with (go_at_call 33; (with_reducible refine (HV.out _).mono ?_); rintro en w2 ⟨rfl, hbz⟩; have c00 := keep_cell hbz c00; have c01 := keep_cell hbz c01; obtain ⟨b0, b1, b2, b3⟩ := BOX.out _ hbz; have HB := Lib.hid hbz; clear hbz)
        obtain ⟨r0, r1, hbb⟩ := FIN.out _ 0 0 HB.out
        refine bodyPost_ret (v := .tuple #[.agg #[.int .i64 0, .int .i64 0], .int .i64 1]) (by simp [results, Tryz.results18, go_sem, r0, r1]) rfl ?_
        exact ⟨rfl, hbb⟩
    · have a1 : ¬ 1000 < n := by omega
      have a2 : ¬ n < -1000 := by omega
      have hr : scaleR m e n = resR (decide (m < 0)) (rnd m.natAbs (e + n)) := by unfold scaleR; rw [if_neg hnn, if_neg a]
      rw [hr]
      obtain ⟨x0, x1, x2⟩ := RV_abs h
      have HAM := Lib.hid (fun w' => amountOf_c m e w' (by omega))
      obtain ⟨s, hs⟩ : ∃ s, decide (m < 0) = s := ⟨_, rfl⟩
      obtain ⟨ds, hds⟩ : ∃ ds, (dg 10 m.natAbs).reverse = ds := ⟨_, rfl⟩
      have hl := dgR_len h
      have hi := inR_dgR m.natAbs
      have hv := vd_dg m.natAbs
      rw [hs, hds] at HAM
      rw [hds] at hl hi hv
      rw [hs]
      have HRD := Lib.hid (fun A c w' (hr : Row .u8 w' A ds) hc hm => rounded_c s A c ds (e + n) false w' hr hc hm hi (by omega) (by omega) (by omega))
      rw [show withMore ds false = ds from rfl, show expMore (e + n) false = e + n from rfl, hv, Int.toNat_natCast] at HRD
      obtain ⟨a', b', c', hf⟩ := res_form s (rnd m.natAbs (e + n))
      rw [hf] at HRD ⊢
      clear hr hnn h hs hds hl hi hv hf a x0
      go_enter Tryz.func18, Tryz.ntmps18
      go_wp2_with (first
        | (go_at_call 33; (with_reducible refine (HV.out _).mono ?_); rintro en w2 ⟨rfl, hbz⟩; have c00 := keep_cell hbz c00; have c01 := keep_cell hbz c01; have HB := Lib.hid hbz; clear hbz)
        | (go_at_call 87; (with_reducible refine (HAM.out _).mono ?_); rintro en w3 ⟨v, rfl, ⟨A9, c9, rfl, hc9, hm9, hr9⟩, hbz⟩; have HR9 := Lib.hid hr9; have HC9 := Lib.hid hc9; have HM9 := Lib.hid hm9; have HB := Lib.hid (belowT HB.out hbz); clear hbz hr9 hc9 hm9)
        | (go_at_call 88; (with_reducible refine (HRD.out A9 c9 _ (HR9.out.below ((Below.refl _ _).alloc (Nat.le_refl _) _)) HC9.out HM9.out).mono ?_); rintro en w4 ⟨rfl, hbz⟩; have HB := Lib.hid (belowT (belowA HB.out _) hbz); obtain ⟨b0, b1, b2, b3⟩ := BOX.out _ HB.out; clear hbz))
      obtain ⟨r0, r1, hbb⟩ := FIN.out _ a' b' HB.out
      refine bodyPost_ret (v := .tuple #[.agg #[.int .i64 a', .int .i64 b'], .int .i64 c']) (by simp [results, Tryz.results18, go_sem, r0, r1]) rfl ?_
      exact ⟨rfl, hbb⟩
  · rw [show decide (RV m.natAbs e) = false from decide_eq_false h] at HV
    have hr : scaleR m e n = .tuple #[.agg #[.int .i64 0, .int .i64 0], .int .i64 1] := by unfold scaleR; rw [if_pos h]
    rw [hr]
    clear hr h
    go_enter Tryz.func18, Tryz.ntmps18
    go_wp2_with (go_at_call 33; (with_reducible refine (HV.out _).mono ?_); rintro en w2 ⟨rfl, hbz⟩; have c00 := keep_cell hbz c00; have c01 := keep_cell hbz c01; obtain ⟨b0, b1, b2, b3⟩ := BOX.out _ hbz; have HB := Lib.hid hbz; clear hbz)
    obtain ⟨r0, r1, hbb⟩ := FIN.out _ 0 0 HB.out
    refine bodyPost_ret (v := .tuple #[.agg #[.int .i64 0, .int .i64 0], .int .i64 1]) (by simp [results, Tryz.results18, go_sem, r0, r1]) rfl ?_
    exact ⟨rfl, hbb⟩
end Go.Proofs.YtekbfommnmikbaaGreatDoor
