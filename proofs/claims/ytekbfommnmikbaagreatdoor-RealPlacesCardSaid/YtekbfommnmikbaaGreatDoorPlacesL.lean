/- The law RealPlaces: its walk. -/
import Derived.Test.YtekbfommnmikbaaGreatDoorSanity
namespace Go.Proofs.YtekbfommnmikbaaGreatDoor
set_option linter.unusedVariables false
set_option linter.unusedSimpArgs false
open Go.RowKit Go.Shelf Go.Proofs Go.Sort
attribute [local go_sem ↓] Go.wp_at_zero Go.wp_at_succ

set_option maxRecDepth 100000 in
set_option maxHeartbeats 8000000 in
theorem places_walk (xm xe zm ze m n : Int) (w : World) (ht : P10 w) (hx0 : -9223372036854775808 ≤ xm) (hx1 : xm ≤ 9223372036854775807) (hz0 : -9223372036854775808 ≤ zm) (hz1 : zm ≤ 9223372036854775807) :
    Calls Tryz.prog 11 #[.agg #[.int .i64 xm, .int .i64 xe], .agg #[.int .i64 zm, .int .i64 ze], .int .i64 m, .int .i64 n] w fun en w' => en = .returned (.bool true) ∧ Below w.heap.size w w' := by
  obtain ⟨W, hW, k0, k1, hbel, hsz⟩ := bx2h w #[.int .i64 xm, .int .i64 xe] #[.int .i64 zm, .int .i64 ze] 23 23
  have HBEL := Lib.hid hbel
  have HT := Lib.hid (ht.below hbel)
  obtain ⟨c0, c1⟩ := two_cells k0
  obtain ⟨z0, z1⟩ := two_cells k1
  have HSAN : Hid (∀ w' : World, P10 w' → Calls Tryz.prog 25 #[] w' fun e w2 => e = .returned (.bool true) ∧ Below w'.heap.size w' w2) := sanityR_c
  have HVX := Lib.hid (fun w' => validR_c xm xe w' hx0 hx1)
  have HVZ := Lib.hid (fun w' => validR_c zm ze w' hz0 hz1)
  clear k0 k1 hbel hsz
  by_cases hx : RV xm.natAbs xe
  rotate_left
  · rw [show decide (RV xm.natAbs xe) = false from decide_eq_false hx] at HVX
    go_enter Tryz.func11, Tryz.ntmps11
    go_wp2_with (first
      | (go_at_call 33; (with_reducible refine (HVX.out _).mono ?_); rintro en w2 ⟨rfl, hbz⟩; have c0 := keep_cell hbz c0; have c1 := keep_cell hbz c1; have z0 := keep_cell hbz z0; have z1 := keep_cell hbz z1; have Ac0 := fun o => keep_cell ((Below.refl _ _).alloc (Nat.le_refl _) o) c0; have Ac1 := fun o => keep_cell ((Below.refl _ _).alloc (Nat.le_refl _) o) c1; have Az0 := fun o => keep_cell ((Below.refl _ _).alloc (Nat.le_refl _) o) z0; have Az1 := fun o => keep_cell ((Below.refl _ _).alloc (Nat.le_refl _) o) z1; have HB := Lib.hid hbz; clear hbz)
      | (go_at_call 25; (with_reducible refine (HSAN.out _ (HT.out.below HB.out)).mono ?_); rintro en w99 ⟨rfl, hbz⟩; have HB := Lib.hid (belowT HB.out hbz); clear hbz))
    go_ret
    exact ⟨rfl, belowT HBEL.out HB.out⟩
  rw [show decide (RV xm.natAbs xe) = true from decide_eq_true hx] at HVX
  by_cases hz : RV zm.natAbs ze
  rotate_left
  · rw [show decide (RV zm.natAbs ze) = false from decide_eq_false hz] at HVZ
    clear hx hz
    go_enter Tryz.func11, Tryz.ntmps11
    go_wp2_with (first
      | (go_at_call 33; (with_reducible refine (HVX.out _).mono ?_); rintro en w2 ⟨rfl, hbz⟩; have c0 := keep_cell hbz c0; have c1 := keep_cell hbz c1; have z0 := keep_cell hbz z0; have z1 := keep_cell hbz z1; have Ac0 := fun o => keep_cell ((Below.refl _ _).alloc (Nat.le_refl _) o) c0; have Ac1 := fun o => keep_cell ((Below.refl _ _).alloc (Nat.le_refl _) o) c1; have Az0 := fun o => keep_cell ((Below.refl _ _).alloc (Nat.le_refl _) o) z0; have Az1 := fun o => keep_cell ((Below.refl _ _).alloc (Nat.le_refl _) o) z1; have HB := Lib.hid hbz; clear hbz)
      | (go_at_call 33; (with_reducible refine (HVZ.out _).mono ?_); rintro en w3 ⟨rfl, hbz⟩; have c0 := keep_cell hbz c0; have c1 := keep_cell hbz c1; have z0 := keep_cell hbz z0; have z1 := keep_cell hbz z1; have Ac0 := fun o => keep_cell ((Below.refl _ _).alloc (Nat.le_refl _) o) c0; have Ac1 := fun o => keep_cell ((Below.refl _ _).alloc (Nat.le_refl _) o) c1; have Az0 := fun o => keep_cell ((Below.refl _ _).alloc (Nat.le_refl _) o) z0; have Az1 := fun o => keep_cell ((Below.refl _ _).alloc (Nat.le_refl _) o) z1; have HB := Lib.hid (belowT HB.out hbz); clear hbz)
      | (go_at_call 25; (with_reducible refine (HSAN.out _ (HT.out.below HB.out)).mono ?_); rintro en w99 ⟨rfl, hbz⟩; have HB := Lib.hid (belowT HB.out hbz); clear hbz))
    go_ret
    exact ⟨rfl, belowT HBEL.out HB.out⟩
  rw [show decide (RV zm.natAbs ze) = true from decide_eq_true hz] at HVZ
  by_cases hmn : 1000000000000000 < m ∨ m < -1000000000000000 ∨ 1000000000000000 < n ∨ n < -1000000000000000
  · have hcase : 1000000000000000 < m ∨ (¬ 1000000000000000 < m ∧ m < -1000000000000000) ∨ (¬ 1000000000000000 < m ∧ ¬ m < -1000000000000000 ∧ 1000000000000000 < n) ∨ (¬ 1000000000000000 < m ∧ ¬ m < -1000000000000000 ∧ ¬ 1000000000000000 < n ∧ n < -1000000000000000) := by omega
    clear hx hz hmn
    rcases hcase with a1 | ⟨a1, a2⟩ | ⟨a1, a2, a3⟩ | ⟨a1, a2, a3, a4⟩
    all_goals
      go_enter Tryz.func11, Tryz.ntmps11
      go_wp2_with (first
        | (go_at_call 33; (with_reducible refine (HVX.out _).mono ?_); rintro en w2 ⟨rfl, hbz⟩; have c0 := keep_cell hbz c0; have c1 := keep_cell hbz c1; have z0 := keep_cell hbz z0; have z1 := keep_cell hbz z1; have Ac0 := fun o => keep_cell ((Below.refl _ _).alloc (Nat.le_refl _) o) c0; have Ac1 := fun o => keep_cell ((Below.refl _ _).alloc (Nat.le_refl _) o) c1; have Az0 := fun o => keep_cell ((Below.refl _ _).alloc (Nat.le_refl _) o) z0; have Az1 := fun o => keep_cell ((Below.refl _ _).alloc (Nat.le_refl _) o) z1; have HB := Lib.hid hbz; clear hbz)
        | (go_at_call 33; (with_reducible refine (HVZ.out _).mono ?_); rintro en w3 ⟨rfl, hbz⟩; have c0 := keep_cell hbz c0; have c1 := keep_cell hbz c1; have z0 := keep_cell hbz z0; have z1 := keep_cell hbz z1; have Ac0 := fun o => keep_cell ((Below.refl _ _).alloc (Nat.le_refl _) o) c0; have Ac1 := fun o => keep_cell ((Below.refl _ _).alloc (Nat.le_refl _) o) c1; have Az0 := fun o => keep_cell ((Below.refl _ _).alloc (Nat.le_refl _) o) z0; have Az1 := fun o => keep_cell ((Below.refl _ _).alloc (Nat.le_refl _) o) z1; have HB := Lib.hid (belowT HB.out hbz); clear hbz)
        | (go_at_call 25; (with_reducible refine (HSAN.out _ (HT.out.below HB.out)).mono ?_); rintro en w99 ⟨rfl, hbz⟩; have HB := Lib.hid (belowT HB.out hbz); clear hbz))
      go_ret
      exact ⟨rfl, belowT HBEL.out HB.out⟩
  have a1 : ¬ 1000000000000000 < m := by omega
  have a2 : ¬ m < -1000000000000000 := by omega
  have a3 : ¬ 1000000000000000 < n := by omega
  have a4 : ¬ n < -1000000000000000 := by omega
  clear hmn
  obtain ⟨p, hp⟩ : ∃ p, plR xm xe = p := ⟨_, rfl⟩
  obtain ⟨r, hr⟩ : ∃ r, plR zm ze = r := ⟨_, rfl⟩
  have hb := plR_bounds hx
  rw [hp] at hb
  by_cases k1 : 180000000000000 < p + m ∨ p + m < -180000000000000
  · have HS1 := Lib.hid (fun w' => stepR_c xm xe m w' hx0 hx1)
    rw [stepR_out hx (by rw [hp]; exact k1)] at HS1
    clear hx hz hb hp hr k1
    go_enter Tryz.func11, Tryz.ntmps11
    go_wp2_with (first
      | (go_at_call 33; (with_reducible refine (HVX.out _).mono ?_); rintro en w2 ⟨rfl, hbz⟩; have c0 := keep_cell hbz c0; have c1 := keep_cell hbz c1; have z0 := keep_cell hbz z0; have z1 := keep_cell hbz z1; have Ac0 := fun o => keep_cell ((Below.refl _ _).alloc (Nat.le_refl _) o) c0; have Ac1 := fun o => keep_cell ((Below.refl _ _).alloc (Nat.le_refl _) o) c1; have Az0 := fun o => keep_cell ((Below.refl _ _).alloc (Nat.le_refl _) o) z0; have Az1 := fun o => keep_cell ((Below.refl _ _).alloc (Nat.le_refl _) o) z1; have HB := Lib.hid hbz; clear hbz)
      | (go_at_call 33; (with_reducible refine (HVZ.out _).mono ?_); rintro en w3 ⟨rfl, hbz⟩; have c0 := keep_cell hbz c0; have c1 := keep_cell hbz c1; have z0 := keep_cell hbz z0; have z1 := keep_cell hbz z1; have Ac0 := fun o => keep_cell ((Below.refl _ _).alloc (Nat.le_refl _) o) c0; have Ac1 := fun o => keep_cell ((Below.refl _ _).alloc (Nat.le_refl _) o) c1; have Az0 := fun o => keep_cell ((Below.refl _ _).alloc (Nat.le_refl _) o) z0; have Az1 := fun o => keep_cell ((Below.refl _ _).alloc (Nat.le_refl _) o) z1; have HB := Lib.hid (belowT HB.out hbz); clear hbz)
      | (go_at_call 56; (with_reducible refine (HS1.out _).mono ?_); rintro en w4 ⟨rfl, hbz⟩; have c0 := keep_cell hbz c0; have c1 := keep_cell hbz c1; have z0 := keep_cell hbz z0; have z1 := keep_cell hbz z1; have Ac0 := fun o => keep_cell ((Below.refl _ _).alloc (Nat.le_refl _) o) c0; have Ac1 := fun o => keep_cell ((Below.refl _ _).alloc (Nat.le_refl _) o) c1; have Az0 := fun o => keep_cell ((Below.refl _ _).alloc (Nat.le_refl _) o) z0; have Az1 := fun o => keep_cell ((Below.refl _ _).alloc (Nat.le_refl _) o) z1; have HB := Lib.hid (belowT HB.out hbz); clear hbz)
      | (go_at_call 25; (with_reducible refine (HSAN.out _ (HT.out.below (belowA HB.out _))).mono ?_); rintro en w99 ⟨rfl, hbz⟩; obtain ⟨y0, y1⟩ := two_cells (heapB hbz (heap_alloc_new _ _)); have Ay0 := fun o => keep_cell ((Below.refl _ _).alloc (Nat.le_refl _) o) y0; have Ay1 := fun o => keep_cell ((Below.refl _ _).alloc (Nat.le_refl _) o) y1; have HB := Lib.hid (belowT (belowA HB.out _) hbz); clear hbz))
    go_ret
    exact ⟨rfl, belowT HBEL.out HB.out⟩
  have HS1 := Lib.hid (fun w' => stepR_c xm xe m w' hx0 hx1)
  rw [stepR_in hx (by rw [hp]; omega) (by rw [hp]; omega), hp] at HS1
  obtain ⟨hy1, hy2, -, -⟩ := byR_cases (k := p + m) (by omega) (by omega)
  obtain ⟨⟨ym, ye⟩, hye⟩ : ∃ q, byR (p + m) = q := ⟨_, rfl⟩
  rw [hye] at HS1 hy1 hy2
  dsimp only at HS1 hy1 hy2
  obtain ⟨y0, y1, y2⟩ := RV_abs hy1
  have HST := Lib.hid (fun w' => steps_c xm xe ym ye w' hx0 hx1 (by omega) (by omega))
  rw [if_pos ⟨hx, hy1⟩, hp, hy2, show p + m - p = m by omega] at HST
  have HCZ := Lib.hid (fun w' => cmpR_c xm xe zm ze w' hx0 hx1 hz0 hz1)
  rw [if_pos ⟨hz, hx⟩, hp, hr] at HCZ
  obtain ⟨ca, hca⟩ : ∃ ca, max (-1) (min (p - r) 1) = ca := ⟨_, rfl⟩
  rw [hca] at HCZ
  have HS2 : Hid (∃ wm we we2 : Int, (∀ w', Calls Tryz.prog 56 #[.agg #[.int .i64 ym, .int .i64 ye], .int .i64 n] w' fun en w2 => en = .returned (.tuple #[.agg #[.int .i64 wm, .int .i64 we], .int .i64 we2]) ∧ Below w'.heap.size w' w2) ∧ (∀ w', Calls Tryz.prog 56 #[.agg #[.int .i64 xm, .int .i64 xe], .int .i64 (m + n)] w' fun en w2 => en = .returned (.tuple #[.agg #[.int .i64 wm, .int .i64 we], .int .i64 we2]) ∧ Below w'.heap.size w' w2) ∧ (we2 = 0 ∨ we2 = 3)) := by
    by_cases k2 : 180000000000000 < p + m + n ∨ p + m + n < -180000000000000
    · refine ⟨0, 0, 3, fun w' => ?_, fun w' => ?_, .inr rfl⟩
      · have h := stepR_c ym ye n w' (by omega) (by omega)
        rw [stepR_out hy1 (by rw [hy2]; exact k2)] at h
        exact h
      · have h := stepR_c xm xe (m + n) w' hx0 hx1
        rw [stepR_out hx (by rw [hp]; omega)] at h
        exact h
    · refine ⟨(byR (p + m + n)).1, (byR (p + m + n)).2, 0, fun w' => ?_, fun w' => ?_, .inl rfl⟩
      · have h := stepR_c ym ye n w' (by omega) (by omega)
        rw [stepR_in hy1 (by rw [hy2]; omega) (by rw [hy2]; omega), hy2] at h
        exact h
      · have h := stepR_c xm xe (m + n) w' hx0 hx1
        rw [stepR_in hx (by rw [hp]; omega) (by rw [hp]; omega), hp, show p + (m + n) = p + m + n by omega] at h
        exact h
  obtain ⟨wm, we, we2, hw1, hw2, hw3⟩ := HS2.out
  have HSW := Lib.hid hw1; have HSV := Lib.hid hw2
  clear HS2 hw1 hw2 hye
  by_cases k3 : 180000000000000 < p + 1 ∨ p + 1 < -180000000000000
  · have HSN := Lib.hid (fun w' => stepR_c xm xe 1 w' hx0 hx1)
    rw [stepR_out hx (by rw [hp]; exact k3)] at HSN
    clear hx hz hb hp hr k1 k3 hy1 hy2 y0 y1 y2
    rcases hw3 with rfl | rfl
    all_goals
      go_enter Tryz.func11, Tryz.ntmps11
      go_wp2_with (first
        | (go_at_call 33; (with_reducible refine (HVX.out _).mono ?_); rintro en w2 ⟨rfl, hbz⟩; have c0 := keep_cell hbz c0; have c1 := keep_cell hbz c1; have z0 := keep_cell hbz z0; have z1 := keep_cell hbz z1; have Ac0 := fun o => keep_cell ((Below.refl _ _).alloc (Nat.le_refl _) o) c0; have Ac1 := fun o => keep_cell ((Below.refl _ _).alloc (Nat.le_refl _) o) c1; have Az0 := fun o => keep_cell ((Below.refl _ _).alloc (Nat.le_refl _) o) z0; have Az1 := fun o => keep_cell ((Below.refl _ _).alloc (Nat.le_refl _) o) z1; have HB := Lib.hid hbz; clear hbz)
        | (go_at_call 33; (with_reducible refine (HVZ.out _).mono ?_); rintro en w3 ⟨rfl, hbz⟩; have c0 := keep_cell hbz c0; have c1 := keep_cell hbz c1; have z0 := keep_cell hbz z0; have z1 := keep_cell hbz z1; have Ac0 := fun o => keep_cell ((Below.refl _ _).alloc (Nat.le_refl _) o) c0; have Ac1 := fun o => keep_cell ((Below.refl _ _).alloc (Nat.le_refl _) o) c1; have Az0 := fun o => keep_cell ((Below.refl _ _).alloc (Nat.le_refl _) o) z0; have Az1 := fun o => keep_cell ((Below.refl _ _).alloc (Nat.le_refl _) o) z1; have HB := Lib.hid (belowT HB.out hbz); clear hbz)
        | (go_at_call 56; (with_reducible refine (HS1.out _).mono ?_); rintro en w4 ⟨rfl, hbz⟩; have c0 := keep_cell hbz c0; have c1 := keep_cell hbz c1; have z0 := keep_cell hbz z0; have z1 := keep_cell hbz z1; have Ac0 := fun o => keep_cell ((Below.refl _ _).alloc (Nat.le_refl _) o) c0; have Ac1 := fun o => keep_cell ((Below.refl _ _).alloc (Nat.le_refl _) o) c1; have Az0 := fun o => keep_cell ((Below.refl _ _).alloc (Nat.le_refl _) o) z0; have Az1 := fun o => keep_cell ((Below.refl _ _).alloc (Nat.le_refl _) o) z1; have HB := Lib.hid (belowT HB.out hbz); clear hbz)
        | (go_at_call 56; (with_reducible refine (HSW.out _).mono ?_); rintro en w5 ⟨rfl, hbz⟩; have c0 := keep_cell hbz (keep_cell ((Below.refl _ _).alloc (Nat.le_refl _) _) c0); have c1 := keep_cell hbz (keep_cell ((Below.refl _ _).alloc (Nat.le_refl _) _) c1); have z0 := keep_cell hbz (keep_cell ((Below.refl _ _).alloc (Nat.le_refl _) _) z0); have z1 := keep_cell hbz (keep_cell ((Below.refl _ _).alloc (Nat.le_refl _) _) z1); obtain ⟨y0, y1⟩ := two_cells (heapB hbz (heap_alloc_new _ _)); have Ac0 := fun o => keep_cell ((Below.refl _ _).alloc (Nat.le_refl _) o) c0; have Ac1 := fun o => keep_cell ((Below.refl _ _).alloc (Nat.le_refl _) o) c1; have Az0 := fun o => keep_cell ((Below.refl _ _).alloc (Nat.le_refl _) o) z0; have Az1 := fun o => keep_cell ((Below.refl _ _).alloc (Nat.le_refl _) o) z1; have Ay0 := fun o => keep_cell ((Below.refl _ _).alloc (Nat.le_refl _) o) y0; have Ay1 := fun o => keep_cell ((Below.refl _ _).alloc (Nat.le_refl _) o) y1; have HB := Lib.hid (belowT (belowA HB.out _) hbz); clear hbz)
        | (go_at_call 56; (with_reducible refine (HSV.out _).mono ?_); rintro en w6 ⟨rfl, hbz⟩; have c0 := keep_cell hbz (keep_cell ((Below.refl _ _).alloc (Nat.le_refl _) _) c0); have c1 := keep_cell hbz (keep_cell ((Below.refl _ _).alloc (Nat.le_refl _) _) c1); have z0 := keep_cell hbz (keep_cell ((Below.refl _ _).alloc (Nat.le_refl _) _) z0); have z1 := keep_cell hbz (keep_cell ((Below.refl _ _).alloc (Nat.le_refl _) _) z1); have y0 := keep_cell hbz (keep_cell ((Below.refl _ _).alloc (Nat.le_refl _) _) y0); have y1 := keep_cell hbz (keep_cell ((Below.refl _ _).alloc (Nat.le_refl _) _) y1); obtain ⟨u0, u1⟩ := two_cells (heapB hbz (heap_alloc_new _ _)); have Ac0 := fun o => keep_cell ((Below.refl _ _).alloc (Nat.le_refl _) o) c0; have Ac1 := fun o => keep_cell ((Below.refl _ _).alloc (Nat.le_refl _) o) c1; have Az0 := fun o => keep_cell ((Below.refl _ _).alloc (Nat.le_refl _) o) z0; have Az1 := fun o => keep_cell ((Below.refl _ _).alloc (Nat.le_refl _) o) z1; have Ay0 := fun o => keep_cell ((Below.refl _ _).alloc (Nat.le_refl _) o) y0; have Ay1 := fun o => keep_cell ((Below.refl _ _).alloc (Nat.le_refl _) o) y1; have Au0 := fun o => keep_cell ((Below.refl _ _).alloc (Nat.le_refl _) o) u0; have Au1 := fun o => keep_cell ((Below.refl _ _).alloc (Nat.le_refl _) o) u1; have HB := Lib.hid (belowT (belowA HB.out _) hbz); clear hbz)
        | (go_at_call 57; (with_reducible refine (HST.out _).mono ?_); rintro en w7 ⟨rfl, hbz⟩; have c0 := keep_cell hbz (keep_cell ((Below.refl _ _).alloc (Nat.le_refl _) _) c0); have c1 := keep_cell hbz (keep_cell ((Below.refl _ _).alloc (Nat.le_refl _) _) c1); have z0 := keep_cell hbz (keep_cell ((Below.refl _ _).alloc (Nat.le_refl _) _) z0); have z1 := keep_cell hbz (keep_cell ((Below.refl _ _).alloc (Nat.le_refl _) _) z1); obtain ⟨v0, v1⟩ := two_cells (heapB hbz (heap_alloc_new _ _)); have Ac0 := fun o => keep_cell ((Below.refl _ _).alloc (Nat.le_refl _) o) c0; have Ac1 := fun o => keep_cell ((Below.refl _ _).alloc (Nat.le_refl _) o) c1; have Az0 := fun o => keep_cell ((Below.refl _ _).alloc (Nat.le_refl _) o) z0; have Az1 := fun o => keep_cell ((Below.refl _ _).alloc (Nat.le_refl _) o) z1; have Av0 := fun o => keep_cell ((Below.refl _ _).alloc (Nat.le_refl _) o) v0; have Av1 := fun o => keep_cell ((Below.refl _ _).alloc (Nat.le_refl _) o) v1; have HB := Lib.hid (belowT (belowA HB.out _) hbz); clear hbz)
        | (go_at_call 56; (with_reducible refine (HSN.out _).mono ?_); rintro en w8 ⟨rfl, hbz⟩; have c0 := keep_cell hbz c0; have c1 := keep_cell hbz c1; have z0 := keep_cell hbz z0; have z1 := keep_cell hbz z1; have Ac0 := fun o => keep_cell ((Below.refl _ _).alloc (Nat.le_refl _) o) c0; have Ac1 := fun o => keep_cell ((Below.refl _ _).alloc (Nat.le_refl _) o) c1; have Az0 := fun o => keep_cell ((Below.refl _ _).alloc (Nat.le_refl _) o) z0; have Az1 := fun o => keep_cell ((Below.refl _ _).alloc (Nat.le_refl _) o) z1; have HB := Lib.hid (belowT HB.out hbz); clear hbz)
        | (go_at_call 25; (with_reducible refine (HSAN.out _ (HT.out.below (belowA HB.out _))).mono ?_); rintro en w99 ⟨rfl, hbz⟩; obtain ⟨g0, g1⟩ := two_cells (heapB hbz (heap_alloc_new _ _)); have Ag0 := fun o => keep_cell ((Below.refl _ _).alloc (Nat.le_refl _) o) g0; have Ag1 := fun o => keep_cell ((Below.refl _ _).alloc (Nat.le_refl _) o) g1; have HB := Lib.hid (belowT (belowA HB.out _) hbz); clear hbz))
      go_ret
      exact ⟨rfl, belowT HBEL.out HB.out⟩
  · have HSN := Lib.hid (fun w' => stepR_c xm xe 1 w' hx0 hx1)
    rw [stepR_in hx (by rw [hp]; omega) (by rw [hp]; omega), hp] at HSN
    obtain ⟨hn1, hn2, -, -⟩ := byR_cases (k := p + 1) (by omega) (by omega)
    obtain ⟨⟨nm, ne⟩, hne⟩ : ∃ q, byR (p + 1) = q := ⟨_, rfl⟩
    rw [hne] at HSN hn1 hn2
    dsimp only at HSN hn1 hn2
    obtain ⟨n0, n1, n2⟩ := RV_abs hn1
    have HCN := Lib.hid (fun w' => cmpR_c xm xe nm ne w' hx0 hx1 (by omega) (by omega))
    rw [if_pos ⟨hn1, hx⟩, hp, hn2, show max (-1) (min (p - (p + 1)) 1) = (-1 : Int) by omega] at HCN
    have HCG := Lib.hid (fun w' => cmpR_c nm ne zm ze w' (by omega) (by omega) hz0 hz1)
    rw [if_pos ⟨hz, hn1⟩, hn2, hr] at HCG
    obtain ⟨cb, hcb⟩ : ∃ cb, max (-1) (min (p + 1 - r) 1) = cb := ⟨_, rfl⟩
    rw [hcb] at HCG
    have hfin : 0 ≤ ca ∨ (¬ 0 ≤ ca ∧ cb ≤ 0) := by omega
    clear hx hz hb hp hr k1 k3 hy1 hy2 y0 y1 y2 hn1 hn2 n0 n1 n2 hne hca hcb
    rcases hw3 with rfl | rfl <;> rcases hfin with e1 | ⟨e1, e2⟩
    all_goals
      go_enter Tryz.func11, Tryz.ntmps11
      go_wp2_with (first
        | (go_at_call 33; (with_reducible refine (HVX.out _).mono ?_); rintro en w2 ⟨rfl, hbz⟩; have c0 := keep_cell hbz c0; have c1 := keep_cell hbz c1; have z0 := keep_cell hbz z0; have z1 := keep_cell hbz z1; have Ac0 := fun o => keep_cell ((Below.refl _ _).alloc (Nat.le_refl _) o) c0; have Ac1 := fun o => keep_cell ((Below.refl _ _).alloc (Nat.le_refl _) o) c1; have Az0 := fun o => keep_cell ((Below.refl _ _).alloc (Nat.le_refl _) o) z0; have Az1 := fun o => keep_cell ((Below.refl _ _).alloc (Nat.le_refl _) o) z1; have HB := Lib.hid hbz; clear hbz)
        | (go_at_call 33; (with_reducible refine (HVZ.out _).mono ?_); rintro en w3 ⟨rfl, hbz⟩; have c0 := keep_cell hbz c0; have c1 := keep_cell hbz c1; have z0 := keep_cell hbz z0; have z1 := keep_cell hbz z1; have Ac0 := fun o => keep_cell ((Below.refl _ _).alloc (Nat.le_refl _) o) c0; have Ac1 := fun o => keep_cell ((Below.refl _ _).alloc (Nat.le_refl _) o) c1; have Az0 := fun o => keep_cell ((Below.refl _ _).alloc (Nat.le_refl _) o) z0; have Az1 := fun o => keep_cell ((Below.refl _ _).alloc (Nat.le_refl _) o) z1; have HB := Lib.hid (belowT HB.out hbz); clear hbz)
        | (go_at_call 56; (with_reducible refine (HS1.out _).mono ?_); rintro en w4 ⟨rfl, hbz⟩; have c0 := keep_cell hbz c0; have c1 := keep_cell hbz c1; have z0 := keep_cell hbz z0; have z1 := keep_cell hbz z1; have Ac0 := fun o => keep_cell ((Below.refl _ _).alloc (Nat.le_refl _) o) c0; have Ac1 := fun o => keep_cell ((Below.refl _ _).alloc (Nat.le_refl _) o) c1; have Az0 := fun o => keep_cell ((Below.refl _ _).alloc (Nat.le_refl _) o) z0; have Az1 := fun o => keep_cell ((Below.refl _ _).alloc (Nat.le_refl _) o) z1; have HB := Lib.hid (belowT HB.out hbz); clear hbz)
        | (go_at_call 56; (with_reducible refine (HSW.out _).mono ?_); rintro en w5 ⟨rfl, hbz⟩; have c0 := keep_cell hbz (keep_cell ((Below.refl _ _).alloc (Nat.le_refl _) _) c0); have c1 := keep_cell hbz (keep_cell ((Below.refl _ _).alloc (Nat.le_refl _) _) c1); have z0 := keep_cell hbz (keep_cell ((Below.refl _ _).alloc (Nat.le_refl _) _) z0); have z1 := keep_cell hbz (keep_cell ((Below.refl _ _).alloc (Nat.le_refl _) _) z1); obtain ⟨y0, y1⟩ := two_cells (heapB hbz (heap_alloc_new _ _)); have Ac0 := fun o => keep_cell ((Below.refl _ _).alloc (Nat.le_refl _) o) c0; have Ac1 := fun o => keep_cell ((Below.refl _ _).alloc (Nat.le_refl _) o) c1; have Az0 := fun o => keep_cell ((Below.refl _ _).alloc (Nat.le_refl _) o) z0; have Az1 := fun o => keep_cell ((Below.refl _ _).alloc (Nat.le_refl _) o) z1; have Ay0 := fun o => keep_cell ((Below.refl _ _).alloc (Nat.le_refl _) o) y0; have Ay1 := fun o => keep_cell ((Below.refl _ _).alloc (Nat.le_refl _) o) y1; have HB := Lib.hid (belowT (belowA HB.out _) hbz); clear hbz)
        | (go_at_call 56; (with_reducible refine (HSV.out _).mono ?_); rintro en w6 ⟨rfl, hbz⟩; have c0 := keep_cell hbz (keep_cell ((Below.refl _ _).alloc (Nat.le_refl _) _) c0); have c1 := keep_cell hbz (keep_cell ((Below.refl _ _).alloc (Nat.le_refl _) _) c1); have z0 := keep_cell hbz (keep_cell ((Below.refl _ _).alloc (Nat.le_refl _) _) z0); have z1 := keep_cell hbz (keep_cell ((Below.refl _ _).alloc (Nat.le_refl _) _) z1); have y0 := keep_cell hbz (keep_cell ((Below.refl _ _).alloc (Nat.le_refl _) _) y0); have y1 := keep_cell hbz (keep_cell ((Below.refl _ _).alloc (Nat.le_refl _) _) y1); obtain ⟨u0, u1⟩ := two_cells (heapB hbz (heap_alloc_new _ _)); have Ac0 := fun o => keep_cell ((Below.refl _ _).alloc (Nat.le_refl _) o) c0; have Ac1 := fun o => keep_cell ((Below.refl _ _).alloc (Nat.le_refl _) o) c1; have Az0 := fun o => keep_cell ((Below.refl _ _).alloc (Nat.le_refl _) o) z0; have Az1 := fun o => keep_cell ((Below.refl _ _).alloc (Nat.le_refl _) o) z1; have Ay0 := fun o => keep_cell ((Below.refl _ _).alloc (Nat.le_refl _) o) y0; have Ay1 := fun o => keep_cell ((Below.refl _ _).alloc (Nat.le_refl _) o) y1; have Au0 := fun o => keep_cell ((Below.refl _ _).alloc (Nat.le_refl _) o) u0; have Au1 := fun o => keep_cell ((Below.refl _ _).alloc (Nat.le_refl _) o) u1; have HB := Lib.hid (belowT (belowA HB.out _) hbz); clear hbz)
        | (go_at_call 57; (with_reducible refine (HST.out _).mono ?_); rintro en w7 ⟨rfl, hbz⟩; have c0 := keep_cell hbz (keep_cell ((Below.refl _ _).alloc (Nat.le_refl _) _) c0); have c1 := keep_cell hbz (keep_cell ((Below.refl _ _).alloc (Nat.le_refl _) _) c1); have z0 := keep_cell hbz (keep_cell ((Below.refl _ _).alloc (Nat.le_refl _) _) z0); have z1 := keep_cell hbz (keep_cell ((Below.refl _ _).alloc (Nat.le_refl _) _) z1); obtain ⟨v0, v1⟩ := two_cells (heapB hbz (heap_alloc_new _ _)); have Ac0 := fun o => keep_cell ((Below.refl _ _).alloc (Nat.le_refl _) o) c0; have Ac1 := fun o => keep_cell ((Below.refl _ _).alloc (Nat.le_refl _) o) c1; have Az0 := fun o => keep_cell ((Below.refl _ _).alloc (Nat.le_refl _) o) z0; have Az1 := fun o => keep_cell ((Below.refl _ _).alloc (Nat.le_refl _) o) z1; have Av0 := fun o => keep_cell ((Below.refl _ _).alloc (Nat.le_refl _) o) v0; have Av1 := fun o => keep_cell ((Below.refl _ _).alloc (Nat.le_refl _) o) v1; have HB := Lib.hid (belowT (belowA HB.out _) hbz); clear hbz)
        | (go_at_call 56; (with_reducible refine (HSN.out _).mono ?_); rintro en w8 ⟨rfl, hbz⟩; have c0 := keep_cell hbz c0; have c1 := keep_cell hbz c1; have z0 := keep_cell hbz z0; have z1 := keep_cell hbz z1; have Ac0 := fun o => keep_cell ((Below.refl _ _).alloc (Nat.le_refl _) o) c0; have Ac1 := fun o => keep_cell ((Below.refl _ _).alloc (Nat.le_refl _) o) c1; have Az0 := fun o => keep_cell ((Below.refl _ _).alloc (Nat.le_refl _) o) z0; have Az1 := fun o => keep_cell ((Below.refl _ _).alloc (Nat.le_refl _) o) z1; have HB := Lib.hid (belowT HB.out hbz); clear hbz)
        | (go_at_call 42; (with_reducible refine (HCN.out _).mono ?_); rintro en w9 ⟨rfl, hbz⟩; have c0 := keep_cell hbz (keep_cell ((Below.refl _ _).alloc (Nat.le_refl _) _) c0); have c1 := keep_cell hbz (keep_cell ((Below.refl _ _).alloc (Nat.le_refl _) _) c1); have z0 := keep_cell hbz (keep_cell ((Below.refl _ _).alloc (Nat.le_refl _) _) z0); have z1 := keep_cell hbz (keep_cell ((Below.refl _ _).alloc (Nat.le_refl _) _) z1); obtain ⟨g0, g1⟩ := two_cells (heapB hbz (heap_alloc_new _ _)); have Ac0 := fun o => keep_cell ((Below.refl _ _).alloc (Nat.le_refl _) o) c0; have Ac1 := fun o => keep_cell ((Below.refl _ _).alloc (Nat.le_refl _) o) c1; have Az0 := fun o => keep_cell ((Below.refl _ _).alloc (Nat.le_refl _) o) z0; have Az1 := fun o => keep_cell ((Below.refl _ _).alloc (Nat.le_refl _) o) z1; have Ag0 := fun o => keep_cell ((Below.refl _ _).alloc (Nat.le_refl _) o) g0; have Ag1 := fun o => keep_cell ((Below.refl _ _).alloc (Nat.le_refl _) o) g1; have HB := Lib.hid (belowT (belowA HB.out _) hbz); clear hbz)
        | (go_at_call 42; (with_reducible refine (HCZ.out _).mono ?_); rintro en w10 ⟨rfl, hbz⟩; have g0 := keep_cell hbz g0; have g1 := keep_cell hbz g1; have z0 := keep_cell hbz z0; have z1 := keep_cell hbz z1; have Ag0 := fun o => keep_cell ((Below.refl _ _).alloc (Nat.le_refl _) o) g0; have Ag1 := fun o => keep_cell ((Below.refl _ _).alloc (Nat.le_refl _) o) g1; have Az0 := fun o => keep_cell ((Below.refl _ _).alloc (Nat.le_refl _) o) z0; have Az1 := fun o => keep_cell ((Below.refl _ _).alloc (Nat.le_refl _) o) z1; have HB := Lib.hid (belowT HB.out hbz); clear hbz)
        | (go_at_call 42; (with_reducible refine (HCG.out _).mono ?_); rintro en w11 ⟨rfl, hbz⟩; have HB := Lib.hid (belowT HB.out hbz); clear hbz)
        | (go_at_call 25; (with_reducible refine (HSAN.out _ (HT.out.below HB.out)).mono ?_); rintro en w99 ⟨rfl, hbz⟩; have HB := Lib.hid (belowT HB.out hbz); clear hbz))
      go_ret
      exact ⟨rfl, belowT HBEL.out HB.out⟩
end Go.Proofs.YtekbfommnmikbaaGreatDoor
