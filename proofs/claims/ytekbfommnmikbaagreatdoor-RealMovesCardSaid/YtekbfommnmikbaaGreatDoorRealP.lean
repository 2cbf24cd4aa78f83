/- Package real: Valid, the places of reals. -/
import Derived.Test.YtekbfommnmikbaaGreatDoorRealO
namespace Go.Proofs.YtekbfommnmikbaaGreatDoor
set_option linter.unusedVariables false
set_option linter.unusedSimpArgs false
open Go.RowKit Go.Shelf Go.Proofs
attribute [local go_sem ↓] Go.wp_at_zero Go.wp_at_succ

instance (m : Nat) (e : Int) : Decidable (RV m e) := by unfold RV; infer_instance

theorem size_any (n : Int) (w : World) (h0 : -9223372036854775808 ≤ n) (h1 : n ≤ 9223372036854775807) :
    Calls Tryz.prog 100 #[.int .i64 n] w fun e w' => ∃ k : Int, e = .returned (.int .i64 k) ∧ w = w' ∧ ((k = (n.natAbs : Int) ∧ n.natAbs ≤ 9223372036854775807) ∨ (k = -9223372036854775808 ∧ n.natAbs = 9223372036854775808)) := by
  by_cases h : n = -9223372036854775808
  · subst h
    go_enter Tryz.func100, Tryz.ntmps100
    go_wp2_with fail
    go_ret
    refine ⟨-9223372036854775808, ?_, rfl, .inr ⟨rfl, rfl⟩⟩
    show Ending.returned (Value.int .i64 (wrap64 9223372036854775808)) = _
    rw [show wrap64 9223372036854775808 = -9223372036854775808 from by first | kernel_rfl | (unfold wrap64; decide) | simp [wrap64]]
  · refine (size_c n w (by omega) h1).mono ?_
    rintro e w' ⟨rfl, rfl⟩
    exact ⟨_, rfl, rfl, .inl ⟨rfl, by omega⟩⟩

set_option maxRecDepth 100000 in
set_option maxHeartbeats 2000000 in
theorem validR_c (m e : Int) (w : World) (hm : -9223372036854775808 ≤ m) (hm2 : m ≤ 9223372036854775807) :
    Calls Tryz.prog 33 #[.agg #[.int .i64 m, .int .i64 e]] w fun en w' => en = .returned (.bool (decide (RV m.natAbs e))) ∧ Below w.heap.size w w' := by
  obtain ⟨b, hb⟩ : ∃ b, decide (RV m.natAbs e) = b := ⟨_, rfl⟩
  rw [hb]
  have HB := Lib.hid hb
  have hal : Below w.heap.size w (w.alloc (.cells #[.int .i64 m, .int .i64 e] 23)) := (Below.refl _ _).alloc (Nat.le_refl _) _
  have HAL := Lib.hid hal
  have c0 : (w.alloc (.cells #[.int .i64 m, .int .i64 e] 23)).cell? ⟨w.heap.size, 0, none⟩ = some (.int .i64 m) := cell_of_heap (heap_alloc_new _ _) 0
  have c1 : (w.alloc (.cells #[.int .i64 m, .int .i64 e] 23)).cell? ⟨w.heap.size, 1, none⟩ = some (.int .i64 e) := cell_of_heap (heap_alloc_new _ _) 1
  obtain ⟨W, hW⟩ : ∃ W, w.alloc (.cells #[.int .i64 m, .int .i64 e] 23) = W := ⟨_, rfl⟩
  rw [hW] at c0 c1 HAL
  clear hal hb
  by_cases h0 : m = 0
  · have hb := HB.out
    by_cases he : e = 0
    · obtain rfl : b = true := by rw [← hb, h0, he]; decide
      clear hb
      go_enter Tryz.func33, Tryz.ntmps33
      go_wp2_with fail
      go_ret
      exact ⟨rfl, (Below.refl _ _).alloc (Nat.le_refl _) _⟩
    · obtain rfl : b = false := by rw [← hb]; apply decide_eq_false; unfold RV; omega
      clear hb
      go_enter Tryz.func33, Tryz.ntmps33
      go_wp2_with fail
      go_ret
      have he' : (e == 0) = false := by simp [he]
      refine ⟨?_, (Below.refl _ _).alloc (Nat.le_refl _) _⟩
      show Ending.returned (Value.bool (e == 0)) = _
      rw [he']
  · have key : ∀ k : Int, ((k = (m.natAbs : Int) ∧ m.natAbs ≤ 9223372036854775807) ∨ (k = -9223372036854775808 ∧ m.natAbs = 9223372036854775808)) → b = decide (100000000000 ≤ k ∧ k < 1000000000000 ∧ -111 ≤ e ∧ e ≤ 88) := by
      intro k hk
      rw [← HB.out]
      unfold RV
      apply decide_eq_decide.2
      omega
    have HKEY := Lib.hid key
    clear key
    go_enter Tryz.func33, Tryz.ntmps33
    go_upto_region 4 with (go_at_call 100; refine (size_any m _ hm hm2).mono ?_; rintro en w' ⟨k, rfl, rfl, hk⟩; have HK := Lib.hid (HKEY.out k hk); clear hk)
    have hb := HK.out
    by_cases k1 : 100000000000 ≤ k
    · by_cases k2 : k < 1000000000000
      · by_cases k3 : -111 ≤ e
        · by_cases k4 : e ≤ 88
          · obtain rfl : b = true := by rw [hb]; exact decide_eq_true ⟨k1, k2, k3, k4⟩
            clear hb
            go_wp2_with fail
            go_ret
            exact ⟨rfl, HAL.out⟩
          · obtain rfl : b = false := by rw [hb]; apply decide_eq_false; omega
            clear hb
            go_wp2_with fail
            go_ret
            exact ⟨rfl, HAL.out⟩
        · obtain rfl : b = false := by rw [hb]; apply decide_eq_false; omega
          clear hb
          go_wp2_with fail
          go_ret
          exact ⟨rfl, HAL.out⟩
      · obtain rfl : b = false := by rw [hb]; apply decide_eq_false; omega
        clear hb
        go_wp2_with fail
        go_ret
        exact ⟨rfl, HAL.out⟩
    · obtain rfl : b = false := by rw [hb]; apply decide_eq_false; omega
      clear hb
      go_wp2_with fail
      go_ret
      exact ⟨rfl, HAL.out⟩

set_option maxHeartbeats 1000000 in
theorem negated_c (m e : Int) (w : World) (hm : -9223372036854775807 ≤ m) (hm2 : m ≤ 9223372036854775807) :
    Calls Tryz.prog 113 #[.agg #[.int .i64 m, .int .i64 e]] w fun en w' => en = .returned (.agg #[.int .i64 (-m), .int .i64 e]) ∧ Below w.heap.size w w' := by
  obtain ⟨W, hW, k0, k1, hbel, hsz⟩ := bx2h w #[.int .i64 m, .int .i64 e] #[.int .i64 0, .int .i64 0] 23 23
  have c00 := cell_of_heap k0 0; have c01 := cell_of_heap k0 1; have d0 := cell_of_heap k1 0; have d1 := cell_of_heap k1 1; have f0 := free_of_heap k1 0; have f1 := free_of_heap k1 1
  simp at c00 c01 d0 d1
  have HK1 := Lib.hid k1; have HBEL := Lib.hid hbel
  clear k0 k1 hbel
  go_enter Tryz.func113, Tryz.ntmps113
  go_wp2_with fail
  have h1 := putB (putB HK1.out 0 (.int .i64 (-m))) 1 (.int .i64 e)
  have r0 := cell_of_heap h1 0; have r1 := cell_of_heap h1 1
  simp at r0 r1
  refine bodyPost_ret (v := .agg #[.int .i64 (-m), .int .i64 e]) (by simp [results, Tryz.results113, go_sem, r0, r1]) rfl ?_
  exact ⟨rfl, (HBEL.out.setCell (p := ⟨w.heap.size + 1, 0, none⟩) (by simp) _).setCell (p := ⟨w.heap.size + 1, 1, none⟩) (by simp) _⟩

/-- The place of a real. -/
def plP (m : Nat) (e : Int) : Int := 1 + (e + 111) * 900000000000 + m - 100000000000
def plR (m e : Int) : Int := if m = 0 then 0 else if m < 0 then -plP m.natAbs e else plP m.natAbs e
set_option maxHeartbeats 2000000 in
theorem place_pos (m e : Int) (w : World) (h : RV m.natAbs e) (h0 : 0 < m) :
    Calls Tryz.prog 129 #[.agg #[.int .i64 m, .int .i64 e]] w fun en w' => en = .returned (.int .i64 (plP m.natAbs e)) ∧ Below w.heap.size w w' := by
  obtain ⟨a1, a2, a3⟩ := RV_abs h
  have hr : plP m.natAbs e = 1 + (e - -111) * 900000000000 + m - 100000000000 := by unfold plP; omega
  rw [hr]
  have n0 : ¬ m = 0 := by omega
  have n1 : ¬ m < 0 := by omega
  have n2 : m < 1000000000000 := by omega
  clear h hr
  go_enter Tryz.func129, Tryz.ntmps129
  go_wp2_with fail
  go_ret
  exact ⟨rfl, (Below.refl _ _).alloc (Nat.le_refl _) _⟩

set_option maxHeartbeats 2000000 in
theorem place_c (m e : Int) (w : World) (h : RV m.natAbs e) :
    Calls Tryz.prog 129 #[.agg #[.int .i64 m, .int .i64 e]] w fun en w' => en = .returned (.int .i64 (plR m e)) ∧ Below w.heap.size w w' := by
  obtain ⟨a1, a2, a3⟩ := RV_abs h
  by_cases h0 : m = 0
  · have hr : plR m e = 0 := by unfold plR; rw [if_pos h0]
    rw [hr]
    clear hr h
    go_enter Tryz.func129, Tryz.ntmps129
    go_wp2_with fail
    go_ret
    exact ⟨rfl, (Below.refl _ _).alloc (Nat.le_refl _) _⟩
  by_cases h1 : m < 0
  · have hr : plR m e = -plP m.natAbs e := by unfold plR; rw [if_neg h0, if_pos h1]
    rw [hr]
    have HPL := Lib.hid (fun w' => place_pos (-m) e w' (by rw [Int.natAbs_neg]; exact h) (by omega))
    have hnm : (-m).natAbs = m.natAbs := Int.natAbs_neg m
    rw [hnm] at HPL
    have hb : 0 ≤ plP m.natAbs e ∧ plP m.natAbs e ≤ 180000000000000 := by
      unfold RV at h; unfold plP; omega
    obtain ⟨p, hp⟩ : ∃ p, plP m.natAbs e = p := ⟨_, rfl⟩
    rw [hp] at HPL hb ⊢
    obtain ⟨b1, b2⟩ := hb
    have m1 : -9223372036854775807 ≤ m := by omega
    have m2 : m ≤ 9223372036854775807 := by omega
    clear hr hp hnm h
    go_enter Tryz.func129, Tryz.ntmps129
    go_wp2_with (first
      | (go_at_call 113; refine (negated_c m e _ m1 m2).mono ?_; rintro en w2 ⟨rfl, hbz⟩; have HB2 := Lib.hid hbz; clear hbz)
      | (go_at_call 129; refine (HPL.out _).mono ?_; rintro en w3 ⟨rfl, hbz⟩; have HB3 := Lib.hid hbz; clear hbz))
    go_ret
    exact ⟨rfl, belowT (belowT ((Below.refl _ _).alloc (Nat.le_refl _) _) HB2.out) HB3.out⟩
  · have hr : plR m e = plP m.natAbs e := by unfold plR; rw [if_neg h0, if_neg h1]
    rw [hr]
    exact place_pos m e w h (by omega)

theorem tmod_nat (k D : Nat) : (k : Int).tmod (D : Int) = ((k % D : Nat) : Int) := rfl
theorem tdiv_nat (k D : Nat) : (k : Int).tdiv (D : Int) = ((k / D : Nat) : Int) := rfl
/-- The real with a place above 0. -/
def byP (n : Int) : Int × Int := (100000000000 + (n - 1).tmod 900000000000, -111 + (n - 1).tdiv 900000000000)
set_option maxRecDepth 100000 in
set_option maxHeartbeats 2000000 in
theorem placed_pos (n : Int) (w : World) (h0 : 0 < n) (h1 : n ≤ 180000000000000) :
    Calls Tryz.prog 130 #[.int .i64 n] w fun en w' => en = .returned (.agg #[.int .i64 (byP n).1, .int .i64 (byP n).2]) ∧ Below w.heap.size w w' := by
  have n0 : ¬ n = 0 := by omega
  have n1 : ¬ n < 0 := by omega
  unfold byP
  obtain ⟨x, hx⟩ : ∃ x, n - 1 = x := ⟨_, rfl⟩
  have hx0 : 0 ≤ x := by omega
  have hx1 : x < 180000000000000 := by omega
  have hb : 0 ≤ x.tmod 900000000000 ∧ x.tmod 900000000000 < 900000000000 ∧ 0 ≤ x.tdiv 900000000000 ∧ x.tdiv 900000000000 < 200 := by
    obtain ⟨k, rfl⟩ := Int.eq_ofNat_of_zero_le hx0
    have e1 := tmod_nat k 900000000000
    have e2 := tdiv_nat k 900000000000
    rw [show ((900000000000 : Nat) : Int) = 900000000000 from rfl] at e1 e2
    rw [e1, e2]
    have hb1 : k % 900000000000 < 900000000000 := Nat.mod_lt _ (by decide)
    have hb2 : k / 900000000000 < 200 := by omega
    generalize k % 900000000000 = r at *
    generalize k / 900000000000 = q at *
    omega
  rw [hx]
  obtain ⟨r, hr⟩ : ∃ r, x.tmod 900000000000 = r := ⟨_, rfl⟩
  obtain ⟨q, hq⟩ : ∃ q, x.tdiv 900000000000 = q := ⟨_, rfl⟩
  rw [hr, hq] at hb ⊢
  obtain ⟨r0, r1, q0, q1⟩ := hb
  obtain ⟨W, hW, k0⟩ : ∃ W, w.alloc (.cells #[.int .i64 0, .int .i64 0] 23) = W ∧ W.heap[w.heap.size]? = some (.cells #[.int .i64 0, .int .i64 0] 23 (0, 0)) := ⟨_, rfl, heap_alloc_new _ _⟩
  have hbel : Below w.heap.size w W := by rw [← hW]; exact (Below.refl _ _).alloc (Nat.le_refl _) _
  have d0 := cell_of_heap k0 0; have d1 := cell_of_heap k0 1; have f0 := free_of_heap k0 0; have f1 := free_of_heap k0 1
  simp at d0 d1
  have HK0 := Lib.hid k0; have HBEL := Lib.hid hbel
  clear k0 hbel
  go_enter Tryz.func130, Tryz.ntmps130
  go_wp2_with fail
  have h1 := putB (putB HK0.out 0 (.int .i64 (100000000000 + r))) 1 (.int .i64 (-111 + q))
  have r0 := cell_of_heap h1 0; have r1 := cell_of_heap h1 1
  simp at r0 r1
  refine bodyPost_ret (v := .agg #[.int .i64 (100000000000 + r), .int .i64 (-111 + q)]) (by simp [results, Tryz.results130, go_sem, r0, r1]) rfl ?_
  exact ⟨rfl, (HBEL.out.setCell (p := ⟨w.heap.size, 0, none⟩) (by simp) _).setCell (p := ⟨w.heap.size, 1, none⟩) (by simp) _⟩
end Go.Proofs.YtekbfommnmikbaaGreatDoor
