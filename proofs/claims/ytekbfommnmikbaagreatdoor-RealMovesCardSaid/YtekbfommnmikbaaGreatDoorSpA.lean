/- The reference of layer 2: the places of reals. -/
import Derived.Test.YtekbfommnmikbaaGreatDoorSanity
namespace Go.Proofs.YtekbfommnmikbaaGreatDoor
set_option linter.unusedVariables false
set_option linter.unusedSimpArgs false
open Go.RowKit Go.Shelf Go.Proofs
attribute [local go_sem ↓] Go.wp_at_zero Go.wp_at_succ

theorem fin3 {w W : World} {B : Nat} {t : TypeId} {x y z : Value} (hk : W.heap[B]? = some (.cells #[x, y, z] t (0, 0))) (hB : w.heap.size ≤ B) (hbel : Below w.heap.size w W) : Hid (∀ (w2 : World) (a b c : Value), Below W.heap.size W w2 → ((((w2.setCell ⟨B, 0, none⟩ a).setCell ⟨B, 1, none⟩ b).setCell ⟨B, 2, none⟩ c).cell? ⟨B, 0, none⟩ = some a ∧ (((w2.setCell ⟨B, 0, none⟩ a).setCell ⟨B, 1, none⟩ b).setCell ⟨B, 2, none⟩ c).cell? ⟨B, 1, none⟩ = some b ∧ (((w2.setCell ⟨B, 0, none⟩ a).setCell ⟨B, 1, none⟩ b).setCell ⟨B, 2, none⟩ c).cell? ⟨B, 2, none⟩ = some c ∧ Below w.heap.size w (((w2.setCell ⟨B, 0, none⟩ a).setCell ⟨B, 1, none⟩ b).setCell ⟨B, 2, none⟩ c))) := fun w2 a b c hb => by
  have h9 := putB (putB (putB (heapB hb hk) 0 a) 1 b) 2 c
  have r0 := cell_of_heap h9 0; have r1 := cell_of_heap h9 1; have r2 := cell_of_heap h9 2
  simp at r0 r1 r2
  exact ⟨r0, r1, r2, (((belowT hbel hb).setCell (p := ⟨B, 0, none⟩) hB _).setCell (p := ⟨B, 1, none⟩) hB _).setCell (p := ⟨B, 2, none⟩) hB _⟩
/-- A result's box of three cells is there and may be written. -/
theorem box3 {W : World} {B : Nat} {t : TypeId} {x y z : Value} (hk : W.heap[B]? = some (.cells #[x, y, z] t (0, 0))) : Hid (∀ w2 : World, Below W.heap.size W w2 → w2.cell? ⟨B, 0, none⟩ = some x ∧ w2.cell? ⟨B, 1, none⟩ = some y ∧ w2.cell? ⟨B, 2, none⟩ = some z ∧ w2.frozen? ⟨B, 0, none⟩ = false ∧ w2.frozen? ⟨B, 1, none⟩ = false ∧ w2.frozen? ⟨B, 2, none⟩ = false) := fun w2 hb => by
  have q := heapB hb hk
  exact ⟨cell_of_heap q 0, cell_of_heap q 1, cell_of_heap q 2, free_of_heap q 0, free_of_heap q 1, free_of_heap q 2⟩

set_option maxHeartbeats 1000000 in
theorem sneg_c (m e : Int) (w : World) (hm : -9223372036854775807 ≤ m) (hm2 : m ≤ 9223372036854775807) :
    Calls Tryz.prog 39 #[.agg #[.int .i64 m, .int .i64 e]] w fun en w' => en = .returned (.agg #[.int .i64 (-m), .int .i64 e]) ∧ Below w.heap.size w w' := by
  obtain ⟨W, hW, k0, k1, hbel, hsz⟩ := bx2h w #[.int .i64 m, .int .i64 e] #[.int .i64 0, .int .i64 0] 23 23
  have c00 := cell_of_heap k0 0; have c01 := cell_of_heap k0 1; have d0 := cell_of_heap k1 0; have d1 := cell_of_heap k1 1; have f0 := free_of_heap k1 0; have f1 := free_of_heap k1 1
  simp at c00 c01 d0 d1
  have FIN := fin2 k1 (by omega) hbel
  clear k0 k1 hbel
  go_enter Tryz.func39, Tryz.ntmps39
  go_wp2_with fail
  obtain ⟨r0, r1, hbb⟩ := FIN.out W (-m) e (Below.refl _ _)
  refine bodyPost_ret (v := .agg #[.int .i64 (-m), .int .i64 e]) (by simp [results, Tryz.results39, go_sem, r0, r1]) rfl ?_
  exact ⟨rfl, hbb⟩
set_option maxHeartbeats 1000000 in
theorem sneg_any (m e : Int) (w : World) (hm : -9223372036854775808 ≤ m) (hm2 : m ≤ 9223372036854775807) :
    Calls Tryz.prog 39 #[.agg #[.int .i64 m, .int .i64 e]] w fun en w' => (∃ k : Int, (m ≠ -9223372036854775808 → k = -m) ∧ en = .returned (.agg #[.int .i64 k, .int .i64 e])) ∧ Below w.heap.size w w' := by
  by_cases h : m = -9223372036854775808
  · subst h
    obtain ⟨W, hW, k0, k1, hbel, hsz⟩ := bx2h w #[.int .i64 (-9223372036854775808), .int .i64 e] #[.int .i64 0, .int .i64 0] 23 23
    have c00 := cell_of_heap k0 0; have c01 := cell_of_heap k0 1; have d0 := cell_of_heap k1 0; have d1 := cell_of_heap k1 1; have f0 := free_of_heap k1 0; have f1 := free_of_heap k1 1
    simp at c00 c01 d0 d1
    have FIN := fin2 k1 (by omega) hbel
    clear k0 k1 hbel
    go_enter Tryz.func39, Tryz.ntmps39
    go_wp2_with fail
    obtain ⟨k, hk⟩ : ∃ k, wrap64 9223372036854775808 = k := ⟨_, rfl⟩
    rw [hk]
    obtain ⟨r0, r1, hbb⟩ := FIN.out W k e (Below.refl _ _)
    refine bodyPost_ret (v := .agg #[.int .i64 k, .int .i64 e]) (by simp [results, Tryz.results39, go_sem, r0, r1]) rfl ?_
    exact ⟨⟨k, fun h => absurd rfl h, rfl⟩, hbb⟩
  · refine (sneg_c m e w (by omega) hm2).mono ?_
    rintro en w' ⟨rfl, hb⟩
    exact ⟨⟨_, fun _ => rfl, rfl⟩, hb⟩

theorem slast_c (w : World) : Calls Tryz.prog 131 #[] w fun en w' => en = .returned (.int .i64 180000000000000) ∧ w = w' := by
  go_enter Tryz.func131, Tryz.ntmps131
  go_wp2_with fail
  go_ret
  exact ⟨rfl, rfl⟩

set_option maxHeartbeats 2000000 in
theorem index_pos (m e : Int) (w : World) (h : RV m.natAbs e) (h0 : 0 < m) :
    Calls Tryz.prog 60 #[.agg #[.int .i64 m, .int .i64 e]] w fun en w' => en = .returned (.int .i64 (plP m.natAbs e)) ∧ Below w.heap.size w w' := by
  obtain ⟨a1, a2, a3⟩ := RV_abs h
  have hr : plP m.natAbs e = 1 + (e + 111) * 900000000000 + m - 100000000000 := by unfold plP; omega
  rw [hr]
  have n0 : ¬ m = 0 := by omega
  have n1 : ¬ m < 0 := by omega
  have n2 : m < 1000000000000 := by omega
  clear h hr
  go_enter Tryz.func60, Tryz.ntmps60
  go_wp2_with fail
  go_ret
  exact ⟨rfl, (Below.refl _ _).alloc (Nat.le_refl _) _⟩

set_option maxHeartbeats 2000000 in
theorem index_c (m e : Int) (w : World) (h : RV m.natAbs e) :
    Calls Tryz.prog 60 #[.agg #[.int .i64 m, .int .i64 e]] w fun en w' => en = .returned (.int .i64 (plR m e)) ∧ Below w.heap.size w w' := by
  obtain ⟨a1, a2, a3⟩ := RV_abs h
  by_cases h0 : m = 0
  · have hr : plR m e = 0 := by unfold plR; rw [if_pos h0]
    rw [hr]
    clear hr h
    go_enter Tryz.func60, Tryz.ntmps60
    go_wp2_with fail
    go_ret
    exact ⟨rfl, (Below.refl _ _).alloc (Nat.le_refl _) _⟩
  by_cases h1 : m < 0
  · have hr : plR m e = -plP m.natAbs e := by unfold plR; rw [if_neg h0, if_pos h1]
    rw [hr]
    have HPL := Lib.hid (fun w' => index_pos (-m) e w' (by rw [Int.natAbs_neg]; exact h) (by omega))
    have hnm : (-m).natAbs = m.natAbs := Int.natAbs_neg m
    rw [hnm] at HPL
    have hb : 0 ≤ plP m.natAbs e ∧ plP m.natAbs e ≤ 180000000000000 := by
      unfold RV at h; unfold plP; omega
    obtain ⟨p, hp⟩ : ∃ p, plP m.natAbs e = p := ⟨_, rfl⟩
    rw [hp] at HPL hb ⊢
    obtain ⟨b1, b2⟩ := hb
    have m1 : -9223372036854775807 ≤ m := by omega
    have m2 : m ≤ 9223372036854775807 := by omega
    clear hr hp hnm h
    go_enter Tryz.func60, Tryz.ntmps60
    go_wp2_with (first
      | (go_at_call 39; refine (sneg_c m e _ m1 m2).mono ?_; rintro en w2 ⟨rfl, hbz⟩; have HB2 := Lib.hid hbz; clear hbz)
      | (go_at_call 60; refine (HPL.out _).mono ?_; rintro en w3 ⟨rfl, hbz⟩; have HB3 := Lib.hid hbz; clear hbz))
    go_ret
    exact ⟨rfl, belowT (belowT ((Below.refl _ _).alloc (Nat.le_refl _) _) HB2.out) HB3.out⟩
  · have hr : plR m e = plP m.natAbs e := by unfold plR; rw [if_neg h0, if_neg h1]
    rw [hr]
    exact index_pos m e w h (by omega)

set_option maxRecDepth 100000 in
set_option maxHeartbeats 2000000 in
theorem byIndex_pos (n : Int) (w : World) (h0 : 0 < n) (h1 : n ≤ 180000000000000) :
    Calls Tryz.prog 132 #[.int .i64 n] w fun en w' => en = .returned (.agg #[.int .i64 (byP n).1, .int .i64 (byP n).2]) ∧ Below w.heap.size w w' := by
  have n0 : ¬ n = 0 := by omega
  have n1 : ¬ n < 0 := by omega
  unfold byP
  obtain ⟨x, hx⟩ : ∃ x, n - 1 = x := ⟨_, rfl⟩
  have hx0 : 0 ≤ x := by omega
  have hx1 : x < 180000000000000 := by omega
  have hb : 0 ≤ x.tmod 900000000000 ∧ x.tmod 900000000000 < 900000000000 ∧ 0 ≤ x.tdiv 900000000000 ∧ x.tdiv 900000000000 < 200 := by
    obtain ⟨k, rfl⟩ := Int.eq_ofNat_of_zero_le hx0
    have e1 := tmod_nat k 900000000000
    have e2 := tdiv_nat k 900000000000
    rw [show ((900000000000 : Nat) : Int) = 900000000000 from rfl] at e1 e2
    rw [e1, e2]
    have hb1 : k % 900000000000 < 900000000000 := Nat.mod_lt _ (by decide)
    have hb2 : k / 900000000000 < 200 := by omega
    generalize k % 900000000000 = r at *
    generalize k / 900000000000 = q at *
    omega
  rw [hx]
  obtain ⟨r, hr⟩ : ∃ r, x.tmod 900000000000 = r := ⟨_, rfl⟩
  obtain ⟨q, hq⟩ : ∃ q, x.tdiv 900000000000 = q := ⟨_, rfl⟩
  rw [hr, hq] at hb ⊢
  obtain ⟨r0, r1, q0, q1⟩ := hb
  have hqc : -111 + q = q - 111 := by omega
  rw [hqc]
  obtain ⟨W, hW, k0⟩ : ∃ W, w.alloc (.cells #[.int .i64 0, .int .i64 0] 23) = W ∧ W.heap[w.heap.size]? = some (.cells #[.int .i64 0, .int .i64 0] 23 (0, 0)) := ⟨_, rfl, heap_alloc_new _ _⟩
  have hbel : Below w.heap.size w W := by rw [← hW]; exact (Below.refl _ _).alloc (Nat.le_refl _) _
  have d0 := cell_of_heap k0 0; have d1 := cell_of_heap k0 1; have f0 := free_of_heap k0 0; have f1 := free_of_heap k0 1
  simp at d0 d1
  have FIN := fin2 k0 (Nat.le_refl _) hbel
  clear k0 hbel
  go_enter Tryz.func132, Tryz.ntmps132
  go_wp2_with fail
  obtain ⟨r0, r1, hbb⟩ := FIN.out W (100000000000 + r) (q - 111) (Below.refl _ _)
  refine bodyPost_ret (v := .agg #[.int .i64 (100000000000 + r), .int .i64 (q - 111)]) (by simp [results, Tryz.results132, go_sem, r0, r1]) rfl ?_
  exact ⟨rfl, hbb⟩

set_option maxRecDepth 100000 in
set_option maxHeartbeats 2000000 in
theorem byIndex_c (n : Int) (w : World) (h0 : -180000000000000 ≤ n) (h1 : n ≤ 180000000000000) :
    Calls Tryz.prog 132 #[.int .i64 n] w fun en w' => en = .returned (.agg #[.int .i64 (byR n).1, .int .i64 (byR n).2]) ∧ Below w.heap.size w w' := by
  by_cases n0 : n = 0
  · subst n0
    have hr : byR 0 = (0, 0) := rfl
    rw [hr]
    obtain ⟨W, hW, k0⟩ : ∃ W, w.alloc (.cells #[.int .i64 0, .int .i64 0] 23) = W ∧ W.heap[w.heap.size]? = some (.cells #[.int .i64 0, .int .i64 0] 23 (0, 0)) := ⟨_, rfl, heap_alloc_new _ _⟩
    have hbel : Below w.heap.size w W := by rw [← hW]; exact (Below.refl _ _).alloc (Nat.le_refl _) _
    have d0 := cell_of_heap k0 0; have d1 := cell_of_heap k0 1; have f0 := free_of_heap k0 0; have f1 := free_of_heap k0 1
    simp at d0 d1
    have FIN := fin2 k0 (Nat.le_refl _) hbel
    clear k0 hbel
    go_enter Tryz.func132, Tryz.ntmps132
    go_wp2_with fail
    obtain ⟨r0, r1, hbb⟩ := FIN.out W 0 0 (Below.refl _ _)
    refine bodyPost_ret (v := .agg #[.int .i64 0, .int .i64 0]) (by simp [results, Tryz.results132, go_sem, r0, r1]) rfl ?_
    exact ⟨rfl, hbb⟩
  by_cases n1 : n < 0
  · have hr : byR n = (-(byP (-n)).1, (byP (-n)).2) := by unfold byR; rw [if_neg n0, if_pos n1]
    rw [hr]
    obtain ⟨b0, b1, b2, b3⟩ := byP_bounds (n := -n) (by omega) (by omega)
    have HPL := Lib.hid (fun w' => byIndex_pos (-n) w' (by omega) (by omega))
    obtain ⟨⟨m, e⟩, hm⟩ : ∃ p, byP (-n) = p := ⟨_, rfl⟩
    rw [hm] at HPL b0 b1 b2 b3 ⊢
    dsimp only at *
    obtain ⟨W, hW, k0⟩ : ∃ W, w.alloc (.cells #[.int .i64 0, .int .i64 0] 23) = W ∧ W.heap[w.heap.size]? = some (.cells #[.int .i64 0, .int .i64 0] 23 (0, 0)) := ⟨_, rfl, heap_alloc_new _ _⟩
    have hbel : Below w.heap.size w W := by rw [← hW]; exact (Below.refl _ _).alloc (Nat.le_refl _) _
    have FIN := fin2 k0 (Nat.le_refl _) hbel
    have BOX := box2 k0
    have m1 : -9223372036854775807 ≤ m := by omega
    have m2 : m ≤ 9223372036854775807 := by omega
    clear k0 hbel hm hr
    go_enter Tryz.func132, Tryz.ntmps132
    go_wp2_with (first
      | (go_at_call 132; refine (HPL.out _).mono ?_; rintro en w2 ⟨rfl, hbz⟩; have HB2 := Lib.hid hbz; clear hbz)
      | (go_at_call 39; refine (sneg_c m e _ m1 m2).mono ?_; rintro en w3 ⟨rfl, hbz⟩; have HB3 := Lib.hid (belowT HB2.out hbz); clear hbz; obtain ⟨d0, d1, f0, f1⟩ := BOX.out w3 HB3.out))
    obtain ⟨r0, r1, hbb⟩ := FIN.out w3 (-m) e HB3.out
    refine bodyPost_ret (v := .agg #[.int .i64 (-m), .int .i64 e]) (by simp [results, Tryz.results132, go_sem, r0, r1]) rfl ?_
    exact ⟨rfl, hbb⟩
  · have hr : byR n = byP n := by unfold byR; rw [if_neg n0, if_neg n1]
    rw [hr]
    exact byIndex_pos n w (by omega) h1

/-- A rounded value of the reference's. -/
def rdV (p : Option (Int × Int)) : Value := match p with
  | some x => .agg #[.int .i64 x.1, .int .i64 x.2, .bool true]
  | none => .agg #[.int .i64 0, .int .i64 0, .bool false]
/-- What Step returns. -/
def stepS (m e n : Int) : Option (Int × Int) :=
  if 360000000000000 < n ∨ n < -360000000000000 then none
  else if 180000000000000 < plR m e + n ∨ plR m e + n < -180000000000000 then none
  else some (byR (plR m e + n))

set_option maxRecDepth 100000 in
set_option maxHeartbeats 4000000 in
theorem sstep_c (m e n : Int) (w : World) (h : RV m.natAbs e) :
    Calls Tryz.prog 59 #[.agg #[.int .i64 m, .int .i64 e], .int .i64 n] w fun en w' => en = .returned (rdV (stepS m e n)) ∧ Below w.heap.size w w' := by
  obtain ⟨W, hW, k0, k1, hbel, hsz⟩ := bx2h w #[.int .i64 m, .int .i64 e] #[.int .i64 0, .int .i64 0, .bool false] 23 30
  obtain ⟨c0, c1⟩ := two_cells k0
  have FIN := fin3 k1 (by omega) hbel
  have BOX := box3 k1
  obtain ⟨d0, d1, d2, f0, f1, f2⟩ := BOX.out W (Below.refl _ _)
  have HIX := Lib.hid (fun w' => index_c m e w' h)
  obtain ⟨b1, b2⟩ := plR_bounds h
  obtain ⟨p, hp⟩ : ∃ p, plR m e = p := ⟨_, rfl⟩
  unfold stepS
  rw [hp] at HIX b1 b2 ⊢
  clear k0 k1 hbel hp h
  by_cases a : 360000000000000 < n ∨ n < -360000000000000
  · rw [if_pos a]
    have hcase : 360000000000000 < n ∨ (¬ 360000000000000 < n ∧ n < -360000000000000) := by omega
    clear a
    go_enter Tryz.func59, Tryz.ntmps59
    rcases hcase with a1 | ⟨a1, a2⟩
    all_goals
      go_wp2_with (go_at_call 131; refine (slast_c _).mono ?_; rintro en w2 ⟨rfl, rfl⟩)
      obtain ⟨r0, r1, r2, hbb⟩ := FIN.out W (.int .i64 0) (.int .i64 0) (.bool false) (Below.refl _ _)
      refine bodyPost_ret (v := .agg #[.int .i64 0, .int .i64 0, .bool false]) (by simp [results, Tryz.results59, go_sem, r0, r1, r2]) rfl ?_
      exact ⟨rfl, hbb⟩
  rw [if_neg a]
  have a1 : ¬ 360000000000000 < n := by omega
  have a2 : ¬ n < -360000000000000 := by omega
  clear a
  by_cases c : 180000000000000 < p + n ∨ p + n < -180000000000000
  · rw [if_pos c]
    have hcase : 180000000000000 < p + n ∨ (¬ 180000000000000 < p + n ∧ p + n < -180000000000000) := by omega
    clear c
    go_enter Tryz.func59, Tryz.ntmps59
    rcases hcase with k1 | ⟨k1, k2⟩
    all_goals
      go_wp2_with (first
        | (go_at_call 131; refine (slast_c _).mono ?_; rintro en w2 ⟨rfl, rfl⟩)
        | (go_at_call 60; refine (HIX.out _).mono ?_; rintro en w3 ⟨rfl, hbz⟩; have HB3 := Lib.hid hbz; clear hbz; obtain ⟨d0, d1, d2, f0, f1, f2⟩ := BOX.out w3 HB3.out))
      obtain ⟨r0, r1, r2, hbb⟩ := FIN.out w3 (.int .i64 0) (.int .i64 0) (.bool false) HB3.out
      refine bodyPost_ret (v := .agg #[.int .i64 0, .int .i64 0, .bool false]) (by simp [results, Tryz.results59, go_sem, r0, r1, r2]) rfl ?_
      exact ⟨rfl, hbb⟩
  · rw [if_neg c]
    have k1 : ¬ 180000000000000 < p + n := by omega
    have k2 : ¬ p + n < -180000000000000 := by omega
    have HPD := Lib.hid (fun w' => byIndex_c (p + n) w' (by omega) (by omega))
    obtain ⟨⟨x, y⟩, hxy⟩ : ∃ q, byR (p + n) = q := ⟨_, rfl⟩
    rw [hxy] at HPD ⊢
    dsimp only [rdV] at HPD ⊢
    clear c hxy
    go_enter Tryz.func59, Tryz.ntmps59
    go_wp2_with (first
      | (go_at_call 131; refine (slast_c _).mono ?_; rintro en w2 ⟨rfl, rfl⟩)
      | (go_at_call 60; refine (HIX.out _).mono ?_; rintro en w3 ⟨rfl, hbz⟩; have HB3 := Lib.hid hbz; clear hbz)
      | (go_at_call 132; refine (HPD.out _).mono ?_; rintro en w4 ⟨rfl, hbz⟩; have HB4 := Lib.hid (belowT HB3.out hbz); clear hbz; obtain ⟨d0, d1, d2, f0, f1, f2⟩ := BOX.out w4 HB4.out))
    obtain ⟨r0, r1, r2, hbb⟩ := FIN.out w4 (.int .i64 x) (.int .i64 y) (.bool true) HB4.out
    refine bodyPost_ret (v := .agg #[.int .i64 x, .int .i64 y, .bool true]) (by simp [results, Tryz.results59, go_sem, r0, r1, r2]) rfl ?_
    exact ⟨rfl, hbb⟩
end Go.Proofs.YtekbfommnmikbaaGreatDoor
