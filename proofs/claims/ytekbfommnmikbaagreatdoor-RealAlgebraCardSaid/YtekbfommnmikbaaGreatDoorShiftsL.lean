/- The law RealShifts: its walk. -/
import Derived.Test.YtekbfommnmikbaaGreatDoorSanity
namespace Go.Proofs.YtekbfommnmikbaaGreatDoor
set_option linter.unusedVariables false
set_option linter.unusedSimpArgs false
open Go.RowKit Go.Shelf Go.Proofs Go.Sort
attribute [local go_sem ↓] Go.wp_at_zero Go.wp_at_succ

theorem sgm_self (m : Int) : sgm (decide (m < 0)) (m.natAbs : Int) = m := by
  unfold sgm
  by_cases h : m < 0
  · rw [if_pos (decide_eq_true h)]; omega
  · rw [if_neg (by simpa using h)]; omega
theorem scaleR_eq {m e n : Int} (h : RV m.natAbs e) (h1 : -1000 ≤ n) (h2 : n ≤ 1000) : scaleR m e n = resR (decide (m < 0)) (rnd m.natAbs (e + n)) := by
  unfold scaleR
  rw [if_neg (fun x => x h), if_neg (by omega)]
theorem resR_some (s : Bool) (m : Nat) (x : Int) : resR s (some (m, x)) = .tuple #[.agg #[.int .i64 (sgm s m), .int .i64 x], .int .i64 0] := rfl
/-- What the first shift may give. -/
theorem shift_cases {m e k : Int} (h : RV m.natAbs e) : rnd m.natAbs (e + k) = none ∨ ∃ M E, rnd m.natAbs (e + k) = some (M, E) ∧ ((M ≠ 0 ∧ E < -110) ∨ (M = 0 ∧ m ≠ 0) ∨ (m ≠ 0 ∧ M = m.natAbs ∧ E = e + k ∧ -110 ≤ E ∧ E ≤ 88) ∨ (m = 0 ∧ M = 0 ∧ E = 0)) := by
  rcases h with ⟨h1, h2⟩ | ⟨h1, h2, h3, h4⟩
  · refine .inr ⟨0, 0, ?_, .inr (.inr (.inr ⟨by omega, rfl, rfl⟩))⟩
    rw [h1]; exact rnd_zero _
  · rw [rnd_man h1 h2]
    by_cases a : e + k < -112
    · rw [if_pos a]; exact .inr ⟨0, 0, rfl, .inr (.inl ⟨rfl, by omega⟩)⟩
    rw [if_neg a]
    by_cases b : e + k = -112
    · rw [if_pos b]
      split
      · exact .inr ⟨_, _, rfl, .inl ⟨by decide, by decide⟩⟩
      · exact .inr ⟨0, 0, rfl, .inr (.inl ⟨rfl, by omega⟩)⟩
    rw [if_neg b]
    by_cases c : 88 < e + k
    · rw [if_pos c]; exact .inl rfl
    · rw [if_neg c]
      refine .inr ⟨_, _, rfl, ?_⟩
      by_cases d : e + k < -110
      · exact .inl ⟨by omega, d⟩
      · exact .inr (.inr (.inl ⟨by omega, rfl, rfl, by omega, by omega⟩))

set_option maxRecDepth 100000 in
set_option maxHeartbeats 8000000 in
theorem shifts_walk (xm xe m n : Int) (w : World) (ht : P10 w) (hx0 : -9223372036854775808 ≤ xm) (hx1 : xm ≤ 9223372036854775807) :
    Calls Tryz.prog 5 #[.agg #[.int .i64 xm, .int .i64 xe], .int .i64 m, .int .i64 n] w fun en w' => en = .returned (.bool true) ∧ Below w.heap.size w w' := by
  obtain ⟨W, hW, k0, hbel⟩ := bx1h w #[.int .i64 xm, .int .i64 xe] 23
  have HBEL := Lib.hid hbel
  have HT := Lib.hid (ht.below hbel)
  obtain ⟨c0, c1⟩ := two_cells k0
  have HSAN : Hid (∀ w' : World, P10 w' → Calls Tryz.prog 25 #[] w' fun e w2 => e = .returned (.bool true) ∧ Below w'.heap.size w' w2) := sanityR_c
  have HVX := Lib.hid (fun w' => validR_c xm xe w' hx0 hx1)
  clear k0 hbel
  by_cases hx : RV xm.natAbs xe
  rotate_left
  · rw [show decide (RV xm.natAbs xe) = false from decide_eq_false hx] at HVX
    go_enter Tryz.func5, Tryz.ntmps5
    go_wp2_with (first
      | (go_at_call 33; (with_reducible refine (HVX.out _).mono ?_); rintro en w2 ⟨rfl, hbz⟩; have c0 := keep_cell hbz c0; have c1 := keep_cell hbz c1; have Ac0 := fun o => keep_cell ((Below.refl _ _).alloc (Nat.le_refl _) o) c0; have Ac1 := fun o => keep_cell ((Below.refl _ _).alloc (Nat.le_refl _) o) c1; have HB := Lib.hid hbz; clear hbz)
      | (go_at_call 25; (with_reducible refine (HSAN.out _ (HT.out.below HB.out)).mono ?_); rintro en w99 ⟨rfl, hbz⟩; have HB := Lib.hid (belowT HB.out hbz); clear hbz))
    go_ret
    exact ⟨rfl, belowT HBEL.out HB.out⟩
  rw [show decide (RV xm.natAbs xe) = true from decide_eq_true hx] at HVX
  by_cases hmn : 300 < m ∨ m < -300 ∨ 300 < n ∨ n < -300
  · have hcase : 300 < m ∨ (¬ 300 < m ∧ m < -300) ∨ (¬ 300 < m ∧ ¬ m < -300 ∧ 300 < n) ∨ (¬ 300 < m ∧ ¬ m < -300 ∧ ¬ 300 < n ∧ n < -300) := by omega
    clear hx hmn
    rcases hcase with a1 | ⟨a1, a2⟩ | ⟨a1, a2, a3⟩ | ⟨a1, a2, a3, a4⟩
    all_goals
      go_enter Tryz.func5, Tryz.ntmps5
      go_wp2_with (first
        | (go_at_call 33; (with_reducible refine (HVX.out _).mono ?_); rintro en w2 ⟨rfl, hbz⟩; have c0 := keep_cell hbz c0; have c1 := keep_cell hbz c1; have Ac0 := fun o => keep_cell ((Below.refl _ _).alloc (Nat.le_refl _) o) c0; have Ac1 := fun o => keep_cell ((Below.refl _ _).alloc (Nat.le_refl _) o) c1; have HB := Lib.hid hbz; clear hbz)
        | (go_at_call 25; (with_reducible refine (HSAN.out _ (HT.out.below HB.out)).mono ?_); rintro en w99 ⟨rfl, hbz⟩; have HB := Lib.hid (belowT HB.out hbz); clear hbz))
      go_ret
      exact ⟨rfl, belowT HBEL.out HB.out⟩
  have a1 : ¬ 300 < m := by omega
  have a2 : ¬ m < -300 := by omega
  have a3 : ¬ 300 < n := by omega
  have a4 : ¬ n < -300 := by omega
  clear hmn
  have hs1 := scaleR_eq (n := m) hx (by omega) (by omega)
  have HS1 := Lib.hid (fun w' => scaleR_c xm xe m w' hx0 hx1)
  rw [hs1] at HS1
  obtain ⟨x0, x1, x2⟩ := RV_abs hx
  rcases shift_cases (k := m) hx with ho | ⟨M, E, ho, hc⟩
  · rw [ho] at HS1
    have HS1 : Hid (∀ w', Calls Tryz.prog 18 #[.agg #[.int .i64 xm, .int .i64 xe], .int .i64 m] w' fun en w2 => en = .returned (.tuple #[.agg #[.int .i64 0, .int .i64 0], .int .i64 3]) ∧ Below w'.heap.size w' w2) := HS1
    clear hx hs1 ho
    go_enter Tryz.func5, Tryz.ntmps5
    go_wp2_with (first
      | (go_at_call 33; (with_reducible refine (HVX.out _).mono ?_); rintro en w2 ⟨rfl, hbz⟩; have c0 := keep_cell hbz c0; have c1 := keep_cell hbz c1; have Ac0 := fun o => keep_cell ((Below.refl _ _).alloc (Nat.le_refl _) o) c0; have Ac1 := fun o => keep_cell ((Below.refl _ _).alloc (Nat.le_refl _) o) c1; have HB := Lib.hid hbz; clear hbz)
      | (go_at_call 18; (with_reducible refine (HS1.out _).mono ?_); rintro en w3 ⟨rfl, hbz⟩; have c0 := keep_cell hbz c0; have c1 := keep_cell hbz c1; have Ac0 := fun o => keep_cell ((Below.refl _ _).alloc (Nat.le_refl _) o) c0; have Ac1 := fun o => keep_cell ((Below.refl _ _).alloc (Nat.le_refl _) o) c1; have HB := Lib.hid (belowT HB.out hbz); clear hbz)
      | (go_at_call 25; (with_reducible refine (HSAN.out _ (HT.out.below (belowA HB.out _))).mono ?_); rintro en w99 ⟨rfl, hbz⟩; obtain ⟨y0, y1⟩ := two_cells (heapB hbz (heap_alloc_new _ _)); have Ay0 := fun o => keep_cell ((Below.refl _ _).alloc (Nat.le_refl _) o) y0; have Ay1 := fun o => keep_cell ((Below.refl _ _).alloc (Nat.le_refl _) o) y1; have HB := Lib.hid (belowT (belowA HB.out _) hbz); clear hbz))
    go_ret
    exact ⟨rfl, belowT HBEL.out HB.out⟩
  rw [ho, resR_some] at HS1
  have hv := rnd_valid ho
  obtain ⟨M0, M1, M2⟩ := RV_abs (m := (M : Int)) hv
  obtain ⟨ym, hym⟩ : ∃ ym, sgm (decide (xm < 0)) (M : Int) = ym := ⟨_, rfl⟩
  have hyz : (ym = 0 ↔ M = 0) ∧ ym.natAbs = M := by
    rw [← hym]
    unfold sgm
    split <;> omega
  rw [hym] at HS1
  by_cases hret : (ym ≠ 0 ∧ E < -110) ∨ (ym = 0 ∧ xm ≠ 0)
  · have hcase : (¬ ym = 0 ∧ E < -110) ∨ (ym = 0 ∧ ¬ xm = 0) := hret
    clear hx hs1 ho hc hv hym hyz hret M0 M1 M2
    rcases hcase with ⟨b1, b2⟩ | ⟨b1, b2⟩
    · have b3 : (ym != 0) = true := by simp [b1]
      have b4 : (ym == 0) = false := by simp [b1]
      go_enter Tryz.func5, Tryz.ntmps5
      go_wp2_with (first
        | (go_at_call 33; (with_reducible refine (HVX.out _).mono ?_); rintro en w2 ⟨rfl, hbz⟩; have c0 := keep_cell hbz c0; have c1 := keep_cell hbz c1; have Ac0 := fun o => keep_cell ((Below.refl _ _).alloc (Nat.le_refl _) o) c0; have Ac1 := fun o => keep_cell ((Below.refl _ _).alloc (Nat.le_refl _) o) c1; have HB := Lib.hid hbz; clear hbz)
        | (go_at_call 18; (with_reducible refine (HS1.out _).mono ?_); rintro en w3 ⟨rfl, hbz⟩; have c0 := keep_cell hbz c0; have c1 := keep_cell hbz c1; have Ac0 := fun o => keep_cell ((Below.refl _ _).alloc (Nat.le_refl _) o) c0; have Ac1 := fun o => keep_cell ((Below.refl _ _).alloc (Nat.le_refl _) o) c1; have HB := Lib.hid (belowT HB.out hbz); clear hbz)
        | (go_at_call 25; (with_reducible refine (HSAN.out _ (HT.out.below (belowA HB.out _))).mono ?_); rintro en w99 ⟨rfl, hbz⟩; obtain ⟨y0, y1⟩ := two_cells (heapB hbz (heap_alloc_new _ _)); have Ay0 := fun o => keep_cell ((Below.refl _ _).alloc (Nat.le_refl _) o) y0; have Ay1 := fun o => keep_cell ((Below.refl _ _).alloc (Nat.le_refl _) o) y1; have HB := Lib.hid (belowT (belowA HB.out _) hbz); clear hbz))
      go_ret
      exact ⟨rfl, belowT HBEL.out HB.out⟩
    · subst b1
      have b3 : (xm != 0) = true := by simp [b2]
      go_enter Tryz.func5, Tryz.ntmps5
      go_wp2_with (first
        | (go_at_call 33; (with_reducible refine (HVX.out _).mono ?_); rintro en w2 ⟨rfl, hbz⟩; have c0 := keep_cell hbz c0; have c1 := keep_cell hbz c1; have Ac0 := fun o => keep_cell ((Below.refl _ _).alloc (Nat.le_refl _) o) c0; have Ac1 := fun o => keep_cell ((Below.refl _ _).alloc (Nat.le_refl _) o) c1; have HB := Lib.hid hbz; clear hbz)
        | (go_at_call 18; (with_reducible refine (HS1.out _).mono ?_); rintro en w3 ⟨rfl, hbz⟩; have c0 := keep_cell hbz c0; have c1 := keep_cell hbz c1; have Ac0 := fun o => keep_cell ((Below.refl _ _).alloc (Nat.le_refl _) o) c0; have Ac1 := fun o => keep_cell ((Below.refl _ _).alloc (Nat.le_refl _) o) c1; have HB := Lib.hid (belowT HB.out hbz); clear hbz)
        | (go_at_call 25; (with_reducible refine (HSAN.out _ (HT.out.below (belowA HB.out _))).mono ?_); rintro en w99 ⟨rfl, hbz⟩; obtain ⟨y0, y1⟩ := two_cells (heapB hbz (heap_alloc_new _ _)); have Ay0 := fun o => keep_cell ((Below.refl _ _).alloc (Nat.le_refl _) o) y0; have Ay1 := fun o => keep_cell ((Below.refl _ _).alloc (Nat.le_refl _) o) y1; have HB := Lib.hid (belowT (belowA HB.out _) hbz); clear hbz))
      go_ret
      exact ⟨rfl, belowT HBEL.out HB.out⟩
  · have hgo : (xm ≠ 0 ∧ ym = xm ∧ E = xe + m ∧ -110 ≤ E ∧ E ≤ 88) ∨ (xm = 0 ∧ ym = 0 ∧ E = 0) := by
      rcases hc with ⟨c1, c2⟩ | ⟨c1, c2⟩ | ⟨c1, c2, c3, c4, c5⟩ | ⟨c1, c2, c3⟩
      · exact absurd (.inl ⟨by omega, c2⟩) hret
      · exact absurd (.inr ⟨by omega, c2⟩) hret
      · refine .inl ⟨c1, ?_, c3, c4, c5⟩
        rw [← hym, c2]; exact sgm_self xm
      · exact .inr ⟨c1, by omega, c3⟩
    have hyv : RV ym.natAbs E := by rw [hyz.2]; exact hv
    have hback : scaleR ym E (-m) = .tuple #[.agg #[.int .i64 xm, .int .i64 xe], .int .i64 0] := by
      rw [scaleR_eq hyv (by omega) (by omega)]
      rcases hgo with ⟨c1, c2, c3, c4, c5⟩ | ⟨c1, c2, c3⟩
      · rw [c2, c3, show xe + m + -m = xe by omega, rnd_self hx, resR_some, sgm_self]
      · subst c1; subst c2
        have : xe = 0 := by unfold RV at hx; omega
        subst this
        rw [show (0 : Int).natAbs = 0 from rfl, rnd_zero]; rfl
    have hsame : scaleR ym E n = scaleR xm xe (m + n) := by
      rw [scaleR_eq hyv (by omega) (by omega), scaleR_eq hx (by omega) (by omega)]
      rcases hgo with ⟨c1, c2, c3, c4, c5⟩ | ⟨c1, c2, c3⟩
      · rw [c2, c3, show xe + (m + n) = xe + m + n by omega]
      · subst c1; subst c2
        rw [show (0 : Int).natAbs = 0 from rfl, rnd_zero, rnd_zero]
    have HSB := Lib.hid (fun w' => scaleR_c ym E (-m) w' (by omega) (by omega))
    rw [hback] at HSB
    have HSN := Lib.hid (fun w' => scaleR_c ym E n w' (by omega) (by omega))
    have HSM := Lib.hid (fun w' => scaleR_c xm xe (m + n) w' hx0 hx1)
    rw [← hsame] at HSM
    obtain ⟨a', b', c', hf⟩ : ∃ a b c, scaleR ym E n = .tuple #[.agg #[.int .i64 a, .int .i64 b], .int .i64 c] := by
      rw [scaleR_eq hyv (by omega) (by omega)]; exact res_form _ _
    rw [hf] at HSN HSM
    have hcase : (¬ ym = 0 ∧ ¬ E < -110) ∨ (ym = 0 ∧ xm = 0) := by omega
    clear hx hs1 ho hc hv hym hyz hret M0 M1 M2 hgo hyv hback hsame hf
    rcases hcase with ⟨b1, b2⟩ | ⟨b1, b2⟩
    · have b3 : (ym != 0) = true := by simp [b1]
      have b4 : (ym == 0) = false := by simp [b1]
      go_enter Tryz.func5, Tryz.ntmps5
      go_wp2_with (first
        | (go_at_call 33; (with_reducible refine (HVX.out _).mono ?_); rintro en w2 ⟨rfl, hbz⟩; have c0 := keep_cell hbz c0; have c1 := keep_cell hbz c1; have Ac0 := fun o => keep_cell ((Below.refl _ _).alloc (Nat.le_refl _) o) c0; have Ac1 := fun o => keep_cell ((Below.refl _ _).alloc (Nat.le_refl _) o) c1; have HB := Lib.hid hbz; clear hbz)
        | (go_at_call 18; (with_reducible refine (HS1.out _).mono ?_); rintro en w3 ⟨rfl, hbz⟩; have c0 := keep_cell hbz c0; have c1 := keep_cell hbz c1; have Ac0 := fun o => keep_cell ((Below.refl _ _).alloc (Nat.le_refl _) o) c0; have Ac1 := fun o => keep_cell ((Below.refl _ _).alloc (Nat.le_refl _) o) c1; have HB := Lib.hid (belowT HB.out hbz); clear hbz)
        | (go_at_call 18; (with_reducible refine (HSB.out _).mono ?_); rintro en w4 ⟨rfl, hbz⟩; have c0 := keep_cell hbz (keep_cell ((Below.refl _ _).alloc (Nat.le_refl _) _) c0); have c1 := keep_cell hbz (keep_cell ((Below.refl _ _).alloc (Nat.le_refl _) _) c1); obtain ⟨y0, y1⟩ := two_cells (heapB hbz (heap_alloc_new _ _)); have Ac0 := fun o => keep_cell ((Below.refl _ _).alloc (Nat.le_refl _) o) c0; have Ac1 := fun o => keep_cell ((Below.refl _ _).alloc (Nat.le_refl _) o) c1; have Ay0 := fun o => keep_cell ((Below.refl _ _).alloc (Nat.le_refl _) o) y0; have Ay1 := fun o => keep_cell ((Below.refl _ _).alloc (Nat.le_refl _) o) y1; have HB := Lib.hid (belowT (belowA HB.out _) hbz); clear hbz)
        | (go_at_call 18; (with_reducible refine (HSN.out _).mono ?_); rintro en w5 ⟨rfl, hbz⟩; have c0 := keep_cell hbz (keep_cell ((Below.refl _ _).alloc (Nat.le_refl _) _) c0); have c1 := keep_cell hbz (keep_cell ((Below.refl _ _).alloc (Nat.le_refl _) _) c1); have y0 := keep_cell hbz (keep_cell ((Below.refl _ _).alloc (Nat.le_refl _) _) y0); have y1 := keep_cell hbz (keep_cell ((Below.refl _ _).alloc (Nat.le_refl _) _) y1); obtain ⟨u0, u1⟩ := two_cells (heapB hbz (heap_alloc_new _ _)); have Ac0 := fun o => keep_cell ((Below.refl _ _).alloc (Nat.le_refl _) o) c0; have Ac1 := fun o => keep_cell ((Below.refl _ _).alloc (Nat.le_refl _) o) c1; have Ay0 := fun o => keep_cell ((Below.refl _ _).alloc (Nat.le_refl _) o) y0; have Ay1 := fun o => keep_cell ((Below.refl _ _).alloc (Nat.le_refl _) o) y1; have Au0 := fun o => keep_cell ((Below.refl _ _).alloc (Nat.le_refl _) o) u0; have Au1 := fun o => keep_cell ((Below.refl _ _).alloc (Nat.le_refl _) o) u1; have HB := Lib.hid (belowT (belowA HB.out _) hbz); clear hbz)
        | (go_at_call 18; (with_reducible refine (HSM.out _).mono ?_); rintro en w6 ⟨rfl, hbz⟩; have c0 := keep_cell hbz (keep_cell ((Below.refl _ _).alloc (Nat.le_refl _) _) c0); have c1 := keep_cell hbz (keep_cell ((Below.refl _ _).alloc (Nat.le_refl _) _) c1); have y0 := keep_cell hbz (keep_cell ((Below.refl _ _).alloc (Nat.le_refl _) _) y0); have y1 := keep_cell hbz (keep_cell ((Below.refl _ _).alloc (Nat.le_refl _) _) y1); have u0 := keep_cell hbz (keep_cell ((Below.refl _ _).alloc (Nat.le_refl _) _) u0); have u1 := keep_cell hbz (keep_cell ((Below.refl _ _).alloc (Nat.le_refl _) _) u1); obtain ⟨v0, v1⟩ := two_cells (heapB hbz (heap_alloc_new _ _)); have Ac0 := fun o => keep_cell ((Below.refl _ _).alloc (Nat.le_refl _) o) c0; have Ac1 := fun o => keep_cell ((Below.refl _ _).alloc (Nat.le_refl _) o) c1; have Ay0 := fun o => keep_cell ((Below.refl _ _).alloc (Nat.le_refl _) o) y0; have Ay1 := fun o => keep_cell ((Below.refl _ _).alloc (Nat.le_refl _) o) y1; have Au0 := fun o => keep_cell ((Below.refl _ _).alloc (Nat.le_refl _) o) u0; have Au1 := fun o => keep_cell ((Below.refl _ _).alloc (Nat.le_refl _) o) u1; have Av0 := fun o => keep_cell ((Below.refl _ _).alloc (Nat.le_refl _) o) v0; have Av1 := fun o => keep_cell ((Below.refl _ _).alloc (Nat.le_refl _) o) v1; have HB := Lib.hid (belowT (belowA HB.out _) hbz); clear hbz)
        | (go_at_call 25; (with_reducible refine (HSAN.out _ (HT.out.below (belowA HB.out _))).mono ?_); rintro en w99 ⟨rfl, hbz⟩; have c0 := keep_cell hbz (keep_cell ((Below.refl _ _).alloc (Nat.le_refl _) _) c0); have c1 := keep_cell hbz (keep_cell ((Below.refl _ _).alloc (Nat.le_refl _) _) c1); have u0 := keep_cell hbz (keep_cell ((Below.refl _ _).alloc (Nat.le_refl _) _) u0); have u1 := keep_cell hbz (keep_cell ((Below.refl _ _).alloc (Nat.le_refl _) _) u1); have v0 := keep_cell hbz (keep_cell ((Below.refl _ _).alloc (Nat.le_refl _) _) v0); have v1 := keep_cell hbz (keep_cell ((Below.refl _ _).alloc (Nat.le_refl _) _) v1); obtain ⟨z0, z1⟩ := two_cells (heapB hbz (heap_alloc_new _ _)); have Ac0 := fun o => keep_cell ((Below.refl _ _).alloc (Nat.le_refl _) o) c0; have Ac1 := fun o => keep_cell ((Below.refl _ _).alloc (Nat.le_refl _) o) c1; have Au0 := fun o => keep_cell ((Below.refl _ _).alloc (Nat.le_refl _) o) u0; have Au1 := fun o => keep_cell ((Below.refl _ _).alloc (Nat.le_refl _) o) u1; have Av0 := fun o => keep_cell ((Below.refl _ _).alloc (Nat.le_refl _) o) v0; have Av1 := fun o => keep_cell ((Below.refl _ _).alloc (Nat.le_refl _) o) v1; have Az0 := fun o => keep_cell ((Below.refl _ _).alloc (Nat.le_refl _) o) z0; have Az1 := fun o => keep_cell ((Below.refl _ _).alloc (Nat.le_refl _) o) z1; have HB := Lib.hid (belowT (belowA HB.out _) hbz); clear hbz))
      go_ret
      exact ⟨rfl, belowT HBEL.out HB.out⟩
    · subst b1
      subst b2
      go_enter Tryz.func5, Tryz.ntmps5
      go_wp2_with (first
        | (go_at_call 33; (with_reducible refine (HVX.out _).mono ?_); rintro en w2 ⟨rfl, hbz⟩; have c0 := keep_cell hbz c0; have c1 := keep_cell hbz c1; have Ac0 := fun o => keep_cell ((Below.refl _ _).alloc (Nat.le_refl _) o) c0; have Ac1 := fun o => keep_cell ((Below.refl _ _).alloc (Nat.le_refl _) o) c1; have HB := Lib.hid hbz; clear hbz)
        | (go_at_call 18; (with_reducible refine (HS1.out _).mono ?_); rintro en w3 ⟨rfl, hbz⟩; have c0 := keep_cell hbz c0; have c1 := keep_cell hbz c1; have Ac0 := fun o => keep_cell ((Below.refl _ _).alloc (Nat.le_refl _) o) c0; have Ac1 := fun o => keep_cell ((Below.refl _ _).alloc (Nat.le_refl _) o) c1; have HB := Lib.hid (belowT HB.out hbz); clear hbz)
        | (go_at_call 18; (with_reducible refine (HSB.out _).mono ?_); rintro en w4 ⟨rfl, hbz⟩; have c0 := keep_cell hbz (keep_cell ((Below.refl _ _).alloc (Nat.le_refl _) _) c0); have c1 := keep_cell hbz (keep_cell ((Below.refl _ _).alloc (Nat.le_refl _) _) c1); obtain ⟨y0, y1⟩ := two_cells (heapB hbz (heap_alloc_new _ _)); have Ac0 := fun o => keep_cell ((Below.refl _ _).alloc (Nat.le_refl _) o) c0; have Ac1 := fun o => keep_cell ((Below.refl _ _).alloc (Nat.le_refl _) o) c1; have Ay0 := fun o => keep_cell ((Below.refl _ _).alloc (Nat.le_refl _) o) y0; have Ay1 := fun o => keep_cell ((Below.refl _ _).alloc (Nat.le_refl _) o) y1; have HB := Lib.hid (belowT (belowA HB.out _) hbz); clear hbz)
        | (go_at_call 18; (with_reducible refine (HSN.out _).mono ?_); rintro en w5 ⟨rfl, hbz⟩; have c0 := keep_cell hbz (keep_cell ((Below.refl _ _).alloc (Nat.le_refl _) _) c0); have c1 := keep_cell hbz (keep_cell ((Below.refl _ _).alloc (Nat.le_refl _) _) c1); have y0 := keep_cell hbz (keep_cell ((Below.refl _ _).alloc (Nat.le_refl _) _) y0); have y1 := keep_cell hbz (keep_cell ((Below.refl _ _).alloc (Nat.le_refl _) _) y1); obtain ⟨u0, u1⟩ := two_cells (heapB hbz (heap_alloc_new _ _)); have Ac0 := fun o => keep_cell ((Below.refl _ _).alloc (Nat.le_refl _) o) c0; have Ac1 := fun o => keep_cell ((Below.refl _ _).alloc (Nat.le_refl _) o) c1; have Ay0 := fun o => keep_cell ((Below.refl _ _).alloc (Nat.le_refl _) o) y0; have Ay1 := fun o => keep_cell ((Below.refl _ _).alloc (Nat.le_refl _) o) y1; have Au0 := fun o => keep_cell ((Below.refl _ _).alloc (Nat.le_refl _) o) u0; have Au1 := fun o => keep_cell ((Below.refl _ _).alloc (Nat.le_refl _) o) u1; have HB := Lib.hid (belowT (belowA HB.out _) hbz); clear hbz)
        | (go_at_call 18; (with_reducible refine (HSM.out _).mono ?_); rintro en w6 ⟨rfl, hbz⟩; have c0 := keep_cell hbz (keep_cell ((Below.refl _ _).alloc (Nat.le_refl _) _) c0); have c1 := keep_cell hbz (keep_cell ((Below.refl _ _).alloc (Nat.le_refl _) _) c1); have y0 := keep_cell hbz (keep_cell ((Below.refl _ _).alloc (Nat.le_refl _) _) y0); have y1 := keep_cell hbz (keep_cell ((Below.refl _ _).alloc (Nat.le_refl _) _) y1); have u0 := keep_cell hbz (keep_cell ((Below.refl _ _).alloc (Nat.le_refl _) _) u0); have u1 := keep_cell hbz (keep_cell ((Below.refl _ _).alloc (Nat.le_refl _) _) u1); obtain ⟨v0, v1⟩ := two_cells (heapB hbz (heap_alloc_new _ _)); have Ac0 := fun o => keep_cell ((Below.refl _ _).alloc (Nat.le_refl _) o) c0; have Ac1 := fun o => keep_cell ((Below.refl _ _).alloc (Nat.le_refl _) o) c1; have Ay0 := fun o => keep_cell ((Below.refl _ _).alloc (Nat.le_refl _) o) y0; have Ay1 := fun o => keep_cell ((Below.refl _ _).alloc (Nat.le_refl _) o) y1; have Au0 := fun o => keep_cell ((Below.refl _ _).alloc (Nat.le_refl _) o) u0; have Au1 := fun o => keep_cell ((Below.refl _ _).alloc (Nat.le_refl _) o) u1; have Av0 := fun o => keep_cell ((Below.refl _ _).alloc (Nat.le_refl _) o) v0; have Av1 := fun o => keep_cell ((Below.refl _ _).alloc (Nat.le_refl _) o) v1; have HB := Lib.hid (belowT (belowA HB.out _) hbz); clear hbz)
        | (go_at_call 25; (with_reducible refine (HSAN.out _ (HT.out.below (belowA HB.out _))).mono ?_); rintro en w99 ⟨rfl, hbz⟩; have c0 := keep_cell hbz (keep_cell ((Below.refl _ _).alloc (Nat.le_refl _) _) c0); have c1 := keep_cell hbz (keep_cell ((Below.refl _ _).alloc (Nat.le_refl _) _) c1); have u0 := keep_cell hbz (keep_cell ((Below.refl _ _).alloc (Nat.le_refl _) _) u0); have u1 := keep_cell hbz (keep_cell ((Below.refl _ _).alloc (Nat.le_refl _) _) u1); have v0 := keep_cell hbz (keep_cell ((Below.refl _ _).alloc (Nat.le_refl _) _) v0); have v1 := keep_cell hbz (keep_cell ((Below.refl _ _).alloc (Nat.le_refl _) _) v1); obtain ⟨z0, z1⟩ := two_cells (heapB hbz (heap_alloc_new _ _)); have Ac0 := fun o => keep_cell ((Below.refl _ _).alloc (Nat.le_refl _) o) c0; have Ac1 := fun o => keep_cell ((Below.refl _ _).alloc (Nat.le_refl _) o) c1; have Au0 := fun o => keep_cell ((Below.refl _ _).alloc (Nat.le_refl _) o) u0; have Au1 := fun o => keep_cell ((Below.refl _ _).alloc (Nat.le_refl _) o) u1; have Av0 := fun o => keep_cell ((Below.refl _ _).alloc (Nat.le_refl _) o) v0; have Av1 := fun o => keep_cell ((Below.refl _ _).alloc (Nat.le_refl _) o) v1; have Az0 := fun o => keep_cell ((Below.refl _ _).alloc (Nat.le_refl _) o) z0; have Az1 := fun o => keep_cell ((Below.refl _ _).alloc (Nat.le_refl _) o) z1; have HB := Lib.hid (belowT (belowA HB.out _) hbz); clear hbz))
      go_ret
      exact ⟨rfl, belowT HBEL.out HB.out⟩
end Go.Proofs.YtekbfommnmikbaaGreatDoor
