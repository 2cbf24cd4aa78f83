/- Package real: what Add, Sub, Mul and Div ask for: the exact results, rounded. -/
import Derived.Test.YtekbfommnmikbaaGreatDoorRealW
namespace Go.Proofs.YtekbfommnmikbaaGreatDoor
set_option linter.unusedVariables false
set_option linter.unusedSimpArgs false
open Go.RowKit Go.Shelf Go.Proofs
attribute [local go_sem ↓] Go.wp_at_zero Go.wp_at_succ

set_option maxHeartbeats 1000000 in
theorem fine_c (a b c d : Int) (w : World) : Calls Tryz.prog 108 #[.agg #[.int .i64 a, .int .i64 b], .agg #[.int .i64 c, .int .i64 d]] w fun en w' => en = .returned (.int .i64 0) ∧ Below w.heap.size w w' := by
  go_enter Tryz.func108, Tryz.ntmps108
  go_wp2_with fail
  go_ret
  exact ⟨rfl, ((Below.refl _ _).alloc (Nat.le_refl _) _).alloc (by simp) _⟩

set_option maxHeartbeats 1000000 in
theorem divf_c (a b c d : Int) (w : World) : Calls Tryz.prog 120 #[.agg #[.int .i64 a, .int .i64 b], .agg #[.int .i64 c, .int .i64 d]] w fun en w' => en = .returned (.int .i64 (if c = 0 then 5 else 0)) ∧ Below w.heap.size w w' := by
  by_cases h : c = 0
  · rw [if_pos h]
    subst h
    go_enter Tryz.func120, Tryz.ntmps120
    go_wp2_with fail
    go_ret
    exact ⟨rfl, ((Below.refl _ _).alloc (Nat.le_refl _) _).alloc (by simp) _⟩
  · rw [if_neg h]
    have h' : (c == 0) = false := by simp [h]
    go_enter Tryz.func120, Tryz.ntmps120
    go_wp2_with fail
    go_ret
    exact ⟨rfl, ((Below.refl _ _).alloc (Nat.le_refl _) _).alloc (by simp) _⟩

theorem reals_two {w : World} {g : Nat} {a b c d : Int} {t : TypeId} (h : w.heap[g]? = some (.cells #[.int .i64 a, .int .i64 b, .int .i64 c, .int .i64 d] t (0, 0))) : Reals w (some ⟨g, 0, none⟩) [(a, b), (c, d)] := fun j hj => by
  refine ⟨_, rfl, ?_⟩
  rw [add_lit, add_lit, cell_of_heap h, cell_of_heap h]
  have : j = 0 ∨ j = 1 := by simp at hj; omega
  rcases this with rfl | rfl <;> exact ⟨rfl, rfl⟩

/-- An amount that is rounded to R is stored into a box. -/
theorem amtR_open {w : World} {v R : Value} (h : AmtR w v R) : ∃ s A n c e more, v = .agg #[.bool s, .slice A n c, .int .i64 e, .bool more] ∧ Hid (∀ (F : World) (B : Nat) (cs : Array Value) (t : TypeId) (fz : Nat × Nat), w.heap[B]? = some (.cells cs t fz) → (∀ (i : Nat) (x : Int), cs[i]? ≠ some (.int .u8 x)) → (∀ g, g ≠ B → F.heap[g]? = w.heap[g]?) → AmtR F v R) := by
  obtain ⟨s, ds, e, more, ⟨A, c, rfl, h1, h2, h3⟩, h4⟩ := h
  exact ⟨s, A, ds.length, c, e, more, rfl, fun F B cs t fz hb hn ho => ⟨s, ds, e, more, ⟨A, c, rfl, h1, h2, row_off h3 hb hn ho⟩, h4⟩⟩

set_option maxRecDepth 100000 in
set_option maxHeartbeats 2000000 in
theorem addf_c (xm xe ym ye : Int) (w : World) (hx : RV xm.natAbs xe) (hy : RV ym.natAbs ye) :
    Calls Tryz.prog 109 #[.agg #[.int .i64 xm, .int .i64 xe], .agg #[.int .i64 ym, .int .i64 ye]] w fun en w' => ∃ v, en = .returned v ∧ AmtR w' v (sumR [(xm, xe), (ym, ye)]) ∧ Below w.heap.size w w' := by
  obtain ⟨W, hW, k0, k1, k2, hbel⟩ := bx3h w #[.int .i64 xm, .int .i64 xe] #[.int .i64 ym, .int .i64 ye] #[.bool false, .slice none 0 0, .int .i64 0, .bool false] 23 23 95
  have c00 := cell_of_heap k0 0; have c01 := cell_of_heap k0 1; have c10 := cell_of_heap k1 0; have c11 := cell_of_heap k1 1
  simp at c00 c01 c10 c11
  have HK2 := Lib.hid k2; have HBEL := Lib.hid hbel
  have hv : ∀ p ∈ [(xm, xe), (ym, ye)], RV p.1.natAbs p.2 := by
    intro p hp
    rcases List.mem_cons.1 hp with rfl | hp
    · exact hx
    · rw [List.mem_singleton.1 hp]; exact hy
  have HSM := Lib.hid (fun A w' (hr : Reals w' A [(xm, xe), (ym, ye)]) => sum_R A 2 [(xm, xe), (ym, ye)] w' hr hv (by simp))
  simp only [List.length_cons, List.length_nil] at HSM
  obtain ⟨R, hR⟩ : ∃ R, sumR [(xm, xe), (ym, ye)] = R := ⟨_, rfl⟩
  rw [hR] at HSM ⊢
  clear k0 k1 k2 hbel hx hy hv hR
  go_enter Tryz.func109, Tryz.ntmps109
  go_wp2_with (first
    | (go_at_call 110; (with_reducible refine (HSM.out _ _ (reals_two (heap_alloc_new _ _))).mono ?_); rintro en w3 ⟨v, rfl, ha, hbz⟩; obtain ⟨s9, A9, n9, c9, e9, m9, rfl, ha2⟩ := amtR_open ha; have HA := ha2; have HB := Lib.hid (belowT ((Below.refl W.heap.size W).alloc (Nat.le_refl _) _) hbz); have q := heapB HB.out HK2.out; have q0 := cell_of_heap q 0; have q1 := cell_of_heap q 1; have q2 := cell_of_heap q 2; have q3 := cell_of_heap q 3; have y0 := free_of_heap q 0; have y1 := free_of_heap q 1; have y2 := free_of_heap q 2; have y3 := free_of_heap q 3; have HQ := Lib.hid q; simp at q0 q1 q2 q3; clear hbz ha ha2 q))
  obtain ⟨F, hF, hb, hk, ho⟩ := amt_put (s := s9) (n := n9) (c := c9) (A := A9) (e := e9) (more := m9) HQ.out
  rw [hF]
  have r0 := cell_of_heap hb 0; have r1 := cell_of_heap hb 1; have r2 := cell_of_heap hb 2; have r3 := cell_of_heap hb 3
  simp at r0 r1 r2 r3
  refine bodyPost_ret (v := .agg #[.bool s9, .slice A9 n9 c9, .int .i64 e9, .bool m9]) (by simp [results, Tryz.results109, go_sem, r0, r1, r2, r3]) rfl ?_
  exact ⟨_, rfl, HA.out F _ _ _ _ HQ.out amt_cells ho, hk _ _ (by omega) (belowT HBEL.out HB.out)⟩

set_option maxRecDepth 100000 in
set_option maxHeartbeats 2000000 in
theorem subf_c (xm xe ym ye : Int) (w : World) (hx : RV xm.natAbs xe) (hy : RV ym.natAbs ye) :
    Calls Tryz.prog 112 #[.agg #[.int .i64 xm, .int .i64 xe], .agg #[.int .i64 ym, .int .i64 ye]] w fun en w' => ∃ v, en = .returned v ∧ AmtR w' v (sumR [(xm, xe), (-ym, ye)]) ∧ Below w.heap.size w w' := by
  obtain ⟨W, hW, k0, k1, k2, hbel⟩ := bx3h w #[.int .i64 xm, .int .i64 xe] #[.int .i64 ym, .int .i64 ye] #[.bool false, .slice none 0 0, .int .i64 0, .bool false] 23 23 95
  have c00 := cell_of_heap k0 0; have c01 := cell_of_heap k0 1; have c10 := cell_of_heap k1 0; have c11 := cell_of_heap k1 1
  simp at c00 c01 c10 c11
  have HK2 := Lib.hid k2; have HBEL := Lib.hid hbel
  have hv : ∀ p ∈ [(xm, xe), (-ym, ye)], RV p.1.natAbs p.2 := by
    intro p hp
    rcases List.mem_cons.1 hp with rfl | hp
    · exact hx
    · rw [List.mem_singleton.1 hp]; show RV (-ym).natAbs ye; rw [Int.natAbs_neg]; exact hy
  have HSM := Lib.hid (fun A w' (hr : Reals w' A [(xm, xe), (-ym, ye)]) => sum_R A 2 [(xm, xe), (-ym, ye)] w' hr hv (by simp))
  simp only [List.length_cons, List.length_nil] at HSM
  obtain ⟨R, hR⟩ : ∃ R, sumR [(xm, xe), (-ym, ye)] = R := ⟨_, rfl⟩
  rw [hR] at HSM ⊢
  have HNG := Lib.hid (fun w' => negated_c ym ye w' (by have := (RV_abs hy).1; omega) (by have := (RV_abs hy).1; omega))
  clear k0 k1 k2 hbel hx hy hv hR
  go_enter Tryz.func112, Tryz.ntmps112
  go_upto_region 1 with fail
  go_region_with (first
    | (go_at_call 113; (with_reducible refine (HNG.out _).mono ?_); rintro en w2 ⟨rfl, hbz⟩; have c00 := keep_cell hbz c00; have c01 := keep_cell hbz c01; have HB1 := Lib.hid (show Below W.heap.size W w2 from by first | exact hbz | exact (Below.refl W.heap.size W).drew.trans hbz); clear hbz)
    | (go_at_call 110; (with_reducible refine (HSM.out _ _ (by first | exact reals_two (heap_alloc_new _ _) | exact (reals_two (heap_alloc_new _ _)).below (Below.refl _ _).drew)).mono ?_); rintro en w3 ⟨v, rfl, ha, hbz⟩; obtain ⟨s9, A9, n9, c9, e9, m9, rfl, ha2⟩ := amtR_open ha; have HA := ha2; have HB := Lib.hid (show Below W.heap.size W w3 from by first | exact belowT (belowA HB1.out _) hbz | exact belowT ((belowA HB1.out _).drew) hbz | exact belowT (belowA HB1.out.drew _) hbz); have q := heapB HB.out HK2.out; have q0 := cell_of_heap q 0; have q1 := cell_of_heap q 1; have q2 := cell_of_heap q 2; have q3 := cell_of_heap q 3; have y0 := free_of_heap q 0; have y1 := free_of_heap q 1; have y2 := free_of_heap q 2; have y3 := free_of_heap q 3; have HQ := Lib.hid q; simp at q0 q1 q2 q3; clear hbz ha ha2 q))
  all_goals
    go_wp2_with fail
    obtain ⟨F, hF, hb, hk, ho⟩ := amt_put (s := s9) (n := n9) (c := c9) (A := A9) (e := e9) (more := m9) HQ.out
    rw [hF]
    have r0 := cell_of_heap hb 0; have r1 := cell_of_heap hb 1; have r2 := cell_of_heap hb 2; have r3 := cell_of_heap hb 3
    simp at r0 r1 r2 r3
    refine bodyPost_ret (v := .agg #[.bool s9, .slice A9 n9 c9, .int .i64 e9, .bool m9]) (by simp [results, Tryz.results112, go_sem, r0, r1, r2, r3]) rfl ?_
    exact ⟨_, rfl, HA.out F _ _ _ _ HQ.out amt_cells ho, hk _ _ (by omega) (belowT HBEL.out HB.out)⟩
end Go.Proofs.YtekbfommnmikbaaGreatDoor
