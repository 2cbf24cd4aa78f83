/- Package real: an operation (its arguments are looked at, then the exact result is rounded). -/
import Derived.Test.YtekbfommnmikbaaGreatDoorRealT
import Derived.Shelf.Abstract
import Derived.BigRegion
namespace Go.Proofs.YtekbfommnmikbaaGreatDoor
set_option linter.unusedVariables false
set_option linter.unusedSimpArgs false
open Go.RowKit Go.Shelf Go.Proofs
attribute [local go_sem ↓] Go.wp_at_zero Go.wp_at_succ

/-- v is an amount that is rounded to what R says. -/
def AmtR (w : World) (v R : Value) : Prop := ∃ s ds e more, Amt w v s ds e more ∧ InR 10 ds ∧ ds.length ≤ 1000000 ∧ -1000000000 ≤ e ∧ e ≤ 1000000000 ∧ resR s (rnd (vd (withMore ds more)).toNat (expMore e more)) = R
theorem AmtR.below {w w' : World} {v R : Value} (h : AmtR w v R) (hb : Below w.heap.size w w') : AmtR w' v R := by
  obtain ⟨s, ds, e, more, h1, h2⟩ := h
  exact ⟨s, ds, e, more, h1.below hb, h2⟩
theorem rounded_R {w : World} {v R : Value} (h : AmtR w v R) : Calls Tryz.prog 88 #[v] w fun en w' => en = .returned R ∧ Below w.heap.size w w' := by
  obtain ⟨s, ds, e, more, h1, h2, h3, h4, h5, rfl⟩ := h
  exact rounded_a h1 h2 h3 h4 h5
theorem AmtR.drew {w : World} {v R : Value} (h : AmtR w v R) : AmtR w.drew v R := h.below (Below.refl _ _).drew

theorem bx4g (w : World) (a0 a1 a2 a3 : Array Value) (t0 t1 t2 t3 : TypeId) : ∃ W, (((w.alloc (.cells a0 t0)).alloc (.cells a1 t1)).alloc (.cells a2 t2)).alloc (.cells a3 t3) = W ∧ W.heap[w.heap.size]? = some (.cells a0 t0 (0, 0)) ∧ W.heap[w.heap.size + 1]? = some (.cells a1 t1 (0, 0)) ∧ W.heap[w.heap.size + 2]? = some (.cells a2 t2 (0, 0)) ∧ W.heap[w.heap.size + 3]? = some (.cells a3 t3 (0, 0)) ∧ Below w.heap.size w W :=
  ⟨_, rfl, heap_old _ (heap_old _ (heap_old _ (heap_alloc_new _ _))), heap_old _ (heap_old _ (heap_new' _ _ _ (by simp))), heap_old _ (heap_new' _ _ _ (by simp)), heap_new' _ _ _ (by simp), ((((Below.refl _ _).alloc (Nat.le_refl _) _).alloc (by simp) _).alloc (by simp; omega) _).alloc (by simp; omega) _⟩

/-- What an operation returns. -/
def doneR (xm xe ym ye r : Int) (R : Value) : Value := if RV xm.natAbs xe ∧ RV ym.natAbs ye then (if r = 0 then R else .tuple #[.agg #[.int .i64 0, .int .i64 0], .int .i64 r]) else .tuple #[.agg #[.int .i64 0, .int .i64 0], .int .i64 1]

/-- Two cells of the result's box are stored. -/
theorem fin2 {w W : World} {B : Nat} {t : TypeId} (hk : W.heap[B]? = some (.cells #[.int .i64 0, .int .i64 0] t (0, 0))) (hB : w.heap.size ≤ B) (hbel : Below w.heap.size w W) : Hid (∀ (w2 : World) (a b : Int), Below W.heap.size W w2 → (((w2.setCell ⟨B, 0, none⟩ (.int .i64 a)).setCell ⟨B, 1, none⟩ (.int .i64 b)).cell? ⟨B, 0, none⟩ = some (.int .i64 a) ∧ ((w2.setCell ⟨B, 0, none⟩ (.int .i64 a)).setCell ⟨B, 1, none⟩ (.int .i64 b)).cell? ⟨B, 1, none⟩ = some (.int .i64 b) ∧ Below w.heap.size w ((w2.setCell ⟨B, 0, none⟩ (.int .i64 a)).setCell ⟨B, 1, none⟩ (.int .i64 b)))) := fun w2 a b hb => by
  have h9 := putB (putB (heapB hb hk) 0 (.int .i64 a)) 1 (.int .i64 b)
  have r0 := cell_of_heap h9 0; have r1 := cell_of_heap h9 1
  simp at r0 r1
  exact ⟨r0, r1, ((belowT hbel hb).setCell (p := ⟨B, 0, none⟩) hB _).setCell (p := ⟨B, 1, none⟩) hB _⟩
/-- The result's box is there and may be written. -/
theorem box2 {W : World} {B : Nat} {t : TypeId} (hk : W.heap[B]? = some (.cells #[.int .i64 0, .int .i64 0] t (0, 0))) : Hid (∀ w2 : World, Below W.heap.size W w2 → w2.cell? ⟨B, 0, none⟩ = some (.int .i64 0) ∧ w2.cell? ⟨B, 1, none⟩ = some (.int .i64 0) ∧ w2.frozen? ⟨B, 0, none⟩ = false ∧ w2.frozen? ⟨B, 1, none⟩ = false) := fun w2 hb => by
  have q := heapB hb hk
  exact ⟨cell_of_heap q 0, cell_of_heap q 1, free_of_heap q 0, free_of_heap q 1⟩

set_option maxRecDepth 100000 in
set_option maxHeartbeats 4000000 in
theorem done_c (f1 f2 : Nat) (xm xe ym ye r : Int) (R : Value) (w : World) (hx0 : -9223372036854775808 ≤ xm) (hx1 : xm ≤ 9223372036854775807) (hy0 : -9223372036854775808 ≤ ym) (hy1 : ym ≤ 9223372036854775807)
    (e1 : ∀ args w, (callFunc f1 args).run Tryz.prog w = .ok (.enter f1 args) w) (e2 : ∀ args w, (callFunc f2 args).run Tryz.prog w = .ok (.enter f2 args) w)
    (h1 : RV xm.natAbs xe → RV ym.natAbs ye → ∀ w', Calls Tryz.prog f1 #[.agg #[.int .i64 xm, .int .i64 xe], .agg #[.int .i64 ym, .int .i64 ye]] w' fun en w2 => en = .returned (.int .i64 r) ∧ Below w'.heap.size w' w2)
    (h2 : RV xm.natAbs xe → RV ym.natAbs ye → r = 0 → ∀ w', Calls Tryz.prog f2 #[.agg #[.int .i64 xm, .int .i64 xe], .agg #[.int .i64 ym, .int .i64 ye]] w' fun en w2 => ∃ v, en = .returned v ∧ AmtR w2 v R ∧ Below w'.heap.size w' w2)
    (hR : ∃ a b c, R = .tuple #[.agg #[.int .i64 a, .int .i64 b], .int .i64 c]) :
    Calls Tryz.prog 111 #[.agg #[.func (.func f1) #[] #[], .func (.func f2) #[] #[]], .agg #[.int .i64 xm, .int .i64 xe], .agg #[.int .i64 ym, .int .i64 ye]] w fun en w' => en = .returned (doneR xm xe ym ye r R) ∧ Below w.heap.size w w' := by
  obtain ⟨a, b, c, rfl⟩ := hR
  obtain ⟨W, hW, k0, k1, k2, k3, hbel⟩ := bx4g w #[.func (.func f1) #[] #[], .func (.func f2) #[] #[]] #[.int .i64 xm, .int .i64 xe] #[.int .i64 ym, .int .i64 ye] #[.int .i64 0, .int .i64 0] 113 23 23 23
  have HBEL := Lib.hid hbel
  have FIN := fin2 k3 (by omega) hbel
  have BOX := box2 k3
  have g00 := cell_of_heap k0 0; have g01 := cell_of_heap k0 1; have c00 := cell_of_heap k1 0; have c01 := cell_of_heap k1 1; have c10 := cell_of_heap k2 0; have c11 := cell_of_heap k2 1
  simp at g00 g01 c00 c01 c10 c11
  have HX := Lib.hid (fun w' => validR_c xm xe w' hx0 hx1)
  have HY := Lib.hid (fun w' => validR_c ym ye w' hy0 hy1)
  clear k0 k1 k2 k3 hbel hx0 hx1 hy0 hy1
  by_cases hx : RV xm.natAbs xe
  · rw [show decide (RV xm.natAbs xe) = true from decide_eq_true hx] at HX
    by_cases hy : RV ym.natAbs ye
    · rw [show decide (RV ym.natAbs ye) = true from decide_eq_true hy] at HY
      have H1 := Lib.hid (h1 hx hy)
      clear h1
      by_cases hr : r = 0
      · have hd : doneR xm xe ym ye r (.tuple #[.agg #[.int .i64 a, .int .i64 b], .int .i64 c]) = .tuple #[.agg #[.int .i64 a, .int .i64 b], .int .i64 c] := by unfold doneR; rw [if_pos ⟨hx, hy⟩, if_pos hr]
        rw [hd]
        have H2 := Lib.hid (h2 hx hy hr)
        clear h2
        subst hr
        clear hd hx hy
        go_enter Tryz.func111, Tryz.ntmps111
        go_wp2_with (first
          | (go_at_call 33; (with_reducible refine (HX.out _).mono ?_); rintro en w2 ⟨rfl, hbz⟩; have c10 := keep_cell hbz c10; have c11 := keep_cell hbz c11; have c00 := keep_cell hbz c00; have c01 := keep_cell hbz c01; have g00 := keep_cell hbz g00; have g01 := keep_cell hbz g01; have HB := Lib.hid hbz; clear hbz)
          | (go_at_call 33; (with_reducible refine (HY.out _).mono ?_); rintro en w2 ⟨rfl, hbz⟩; have c10 := keep_cell hbz c10; have c11 := keep_cell hbz c11; have c00 := keep_cell hbz c00; have c01 := keep_cell hbz c01; have g00 := keep_cell hbz g00; have g01 := keep_cell hbz g01; have HB := Lib.hid (belowT HB.out hbz); clear hbz)
          | (go_at_fn f1; (with_reducible refine (H1.out _).mono ?_); rintro en w2 ⟨rfl, hbz⟩; have c10 := keep_cell hbz c10; have c11 := keep_cell hbz c11; have c00 := keep_cell hbz c00; have c01 := keep_cell hbz c01; have g00 := keep_cell hbz g00; have g01 := keep_cell hbz g01; have HB := Lib.hid (belowT HB.out hbz); clear hbz)
          | (go_at_fn f2; (with_reducible refine (H2.out _).mono ?_); rintro en w2 ⟨v, rfl, ha, hbz⟩; have HA := Lib.hid ha; have HB := Lib.hid (belowT HB.out hbz); clear hbz ha)
          | (go_at_call 88; (with_reducible refine (rounded_R HA.out).mono ?_); rintro en w2 ⟨rfl, hbz⟩; have HB := Lib.hid (belowT HB.out hbz); obtain ⟨b0, b1, b2, b3⟩ := BOX.out _ HB.out; clear hbz))
        obtain ⟨r0, r1, hbb⟩ := FIN.out _ a b HB.out
        refine bodyPost_ret (v := .tuple #[.agg #[.int .i64 a, .int .i64 b], .int .i64 c]) (by simp [results, Tryz.results111, go_sem, r0, r1]) rfl ?_
        exact ⟨rfl, hbb⟩
      · have hd : doneR xm xe ym ye r (.tuple #[.agg #[.int .i64 a, .int .i64 b], .int .i64 c]) = .tuple #[.agg #[.int .i64 0, .int .i64 0], .int .i64 r] := by unfold doneR; rw [if_pos ⟨hx, hy⟩, if_neg hr]
        rw [hd]
        clear hd hx hy h2
        have hr' : (r != 0) = true := by simp [hr]
        go_enter Tryz.func111, Tryz.ntmps111
        go_wp2_with (first
          | (go_at_call 33; (with_reducible refine (HX.out _).mono ?_); rintro en w2 ⟨rfl, hbz⟩; have c10 := keep_cell hbz c10; have c11 := keep_cell hbz c11; have c00 := keep_cell hbz c00; have c01 := keep_cell hbz c01; have g00 := keep_cell hbz g00; have g01 := keep_cell hbz g01; have HB := Lib.hid hbz; clear hbz)
          | (go_at_call 33; (with_reducible refine (HY.out _).mono ?_); rintro en w2 ⟨rfl, hbz⟩; have c10 := keep_cell hbz c10; have c11 := keep_cell hbz c11; have c00 := keep_cell hbz c00; have c01 := keep_cell hbz c01; have g00 := keep_cell hbz g00; have g01 := keep_cell hbz g01; have HB := Lib.hid (belowT HB.out hbz); clear hbz)
          | (go_at_fn f1; (with_reducible refine (H1.out _).mono ?_); rintro en w2 ⟨rfl, hbz⟩; have c10 := keep_cell hbz c10; have c11 := keep_cell hbz c11; have c00 := keep_cell hbz c00; have c01 := keep_cell hbz c01; have g00 := keep_cell hbz g00; have g01 := keep_cell hbz g01; have HB := Lib.hid (belowT HB.out hbz); obtain ⟨b0, b1, b2, b3⟩ := BOX.out _ HB.out; clear hbz))
        obtain ⟨r0, r1, hbb⟩ := FIN.out _ 0 0 HB.out
        refine bodyPost_ret (v := .tuple #[.agg #[.int .i64 0, .int .i64 0], .int .i64 r]) (by simp [results, Tryz.results111, go_sem, r0, r1]) rfl ?_
        exact ⟨rfl, hbb⟩
    · have hd : doneR xm xe ym ye r (.tuple #[.agg #[.int .i64 a, .int .i64 b], .int .i64 c]) = .tuple #[.agg #[.int .i64 0, .int .i64 0], .int .i64 1] := by unfold doneR; rw [if_neg fun h => hy h.2]
      rw [hd]
      rw [show decide (RV ym.natAbs ye) = false from decide_eq_false hy] at HY
      clear hd hx hy h1 h2
      go_enter Tryz.func111, Tryz.ntmps111
      go_wp2_with (first
          | (go_at_call 33; (with_reducible refine (HX.out _).mono ?_); rintro en w2 ⟨rfl, hbz⟩; have c10 := keep_cell hbz c10; have c11 := keep_cell hbz c11; have c00 := keep_cell hbz c00; have c01 := keep_cell hbz c01; have g00 := keep_cell hbz g00; have g01 := keep_cell hbz g01; have HB := Lib.hid hbz; clear hbz)
          | (go_at_call 33; (with_reducible refine (HY.out _).mono ?_); rintro en w2 ⟨rfl, hbz⟩; have c10 := keep_cell hbz c10; have c11 := keep_cell hbz c11; have c00 := keep_cell hbz c00; have c01 := keep_cell hbz c01; have g00 := keep_cell hbz g00; have g01 := keep_cell hbz g01; have HB := Lib.hid (belowT HB.out hbz); obtain ⟨b0, b1, b2, b3⟩ := BOX.out _ HB.out; clear hbz))
      obtain ⟨r0, r1, hbb⟩ := FIN.out _ 0 0 HB.out
      refine bodyPost_ret (v := .tuple #[.agg #[.int .i64 0, .int .i64 0], .int .i64 1]) (by simp [results, Tryz.results111, go_sem, r0, r1]) rfl ?_
      exact ⟨rfl, hbb⟩
  · have hd : doneR xm xe ym ye r (.tuple #[.agg #[.int .i64 a, .int .i64 b], .int .i64 c]) = .tuple #[.agg #[.int .i64 0, .int .i64 0], .int .i64 1] := by unfold doneR; rw [if_neg fun h => hx h.1]
    rw [hd]
    rw [show decide (RV xm.natAbs xe) = false from decide_eq_false hx] at HX
    clear hd hx h1 h2
    go_enter Tryz.func111, Tryz.ntmps111
    go_wp2_with (first
          | (go_at_call 33; (with_reducible refine (HX.out _).mono ?_); rintro en w2 ⟨rfl, hbz⟩; have c10 := keep_cell hbz c10; have c11 := keep_cell hbz c11; have c00 := keep_cell hbz c00; have c01 := keep_cell hbz c01; have g00 := keep_cell hbz g00; have g01 := keep_cell hbz g01; have HB := Lib.hid hbz; obtain ⟨b0, b1, b2, b3⟩ := BOX.out _ HB.out; clear hbz))
    obtain ⟨r0, r1, hbb⟩ := FIN.out _ 0 0 HB.out
    refine bodyPost_ret (v := .tuple #[.agg #[.int .i64 0, .int .i64 0], .int .i64 1]) (by simp [results, Tryz.results111, go_sem, r0, r1]) rfl ?_
    exact ⟨rfl, hbb⟩
end Go.Proofs.YtekbfommnmikbaaGreatDoor
