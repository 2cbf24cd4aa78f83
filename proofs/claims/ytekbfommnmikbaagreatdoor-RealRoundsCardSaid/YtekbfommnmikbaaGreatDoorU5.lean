/- Texts of this claim, merged: RealU, RealW, RealX, RealZ. -/
import Derived.Test.YtekbfommnmikbaaGreatDoorU4
import Derived.Shelf.Abstract
import Derived.BigRegion
/- Package real: an operation (its arguments are looked at, then the exact result is rounded). -/
namespace Go.Proofs.YtekbfommnmikbaaGreatDoor
set_option linter.unusedVariables false
set_option linter.unusedSimpArgs false
open Go.RowKit Go.Shelf Go.Proofs
attribute [local go_sem ↓] Go.wp_at_zero Go.wp_at_succ

/-- v is an amount that is rounded to what R says. -/
def AmtR (w : World) (v R : Value) : Prop := ∃ s ds e more, Amt w v s ds e more ∧ InR 10 ds ∧ ds.length ≤ 1000000 ∧ -1000000000 ≤ e ∧ e ≤ 1000000000 ∧ resR s (rnd (vd (withMore ds more)).toNat (expMore e more)) = R
theorem AmtR.below {w w' : World} {v R : Value} (h : AmtR w v R) (hb : Below w.heap.size w w') : AmtR w' v R := by
  obtain ⟨s, ds, e, more, h1, h2⟩ := h
  exact ⟨s, ds, e, more, h1.below hb, h2⟩
theorem rounded_R {w : World} {v R : Value} (h : AmtR w v R) : Calls Tryz.prog 88 #[v] w fun en w' => en = .returned R ∧ Below w.heap.size w w' := by
  obtain ⟨s, ds, e, more, h1, h2, h3, h4, h5, rfl⟩ := h
  exact rounded_a h1 h2 h3 h4 h5
theorem AmtR.drew {w : World} {v R : Value} (h : AmtR w v R) : AmtR w.drew v R := h.below (Below.refl _ _).drew

theorem bx4g (w : World) (a0 a1 a2 a3 : Array Value) (t0 t1 t2 t3 : TypeId) : ∃ W, (((w.alloc (.cells a0 t0)).alloc (.cells a1 t1)).alloc (.cells a2 t2)).alloc (.cells a3 t3) = W ∧ W.heap[w.heap.size]? = some (.cells a0 t0 (0, 0)) ∧ W.heap[w.heap.size + 1]? = some (.cells a1 t1 (0, 0)) ∧ W.heap[w.heap.size + 2]? = some (.cells a2 t2 (0, 0)) ∧ W.heap[w.heap.size + 3]? = some (.cells a3 t3 (0, 0)) ∧ Below w.heap.size w W :=
  ⟨_, rfl, heap_old _ (heap_old _ (heap_old _ (heap_alloc_new _ _))), heap_old _ (heap_old _ (heap_new' _ _ _ (by simp))), heap_old _ (heap_new' _ _ _ (by simp)), heap_new' _ _ _ (by simp), ((((Below.refl _ _).alloc (Nat.le_refl _) _).alloc (by simp) _).alloc (by simp; omega) _).alloc (by simp; omega) _⟩

/-- What an operation returns. -/
def doneR (xm xe ym ye r : Int) (R : Value) : Value := if RV xm.natAbs xe ∧ RV ym.natAbs ye then (if r = 0 then R else .tuple #[.agg #[.int .i64 0, .int .i64 0], .int .i64 r]) else .tuple #[.agg #[.int .i64 0, .int .i64 0], .int .i64 1]

/-- Two cells of the result's box are stored. -/
theorem fin2 {w W : World} {B : Nat} {t : TypeId} (hk : W.heap[B]? = some (.cells #[.int .i64 0, .int .i64 0] t (0, 0))) (hB : w.heap.size ≤ B) (hbel : Below w.heap.size w W) : Hid (∀ (w2 : World) (a b : Int), Below W.heap.size W w2 → (((w2.setCell ⟨B, 0, none⟩ (.int .i64 a)).setCell ⟨B, 1, none⟩ (.int .i64 b)).cell? ⟨B, 0, none⟩ = some (.int .i64 a) ∧ ((w2.setCell ⟨B, 0, none⟩ (.int .i64 a)).setCell ⟨B, 1, none⟩ (.int .i64 b)).cell? ⟨B, 1, none⟩ = some (.int .i64 b) ∧ Below w.heap.size w ((w2.setCell ⟨B, 0, none⟩ (.int .i64 a)).setCell ⟨B, 1, none⟩ (.int .i64 b)))) := fun w2 a b hb => by
  have h9 := putB (putB (heapB hb hk) 0 (.int .i64 a)) 1 (.int .i64 b)
  have r0 := cell_of_heap h9 0; have r1 := cell_of_heap h9 1
  simp at r0 r1
  exact ⟨r0, r1, ((belowT hbel hb).setCell (p := ⟨B, 0, none⟩) hB _).setCell (p := ⟨B, 1, none⟩) hB _⟩
/-- The result's box is there and may be written. -/
theorem box2 {W : World} {B : Nat} {t : TypeId} (hk : W.heap[B]? = some (.cells #[.int .i64 0, .int .i64 0] t (0, 0))) : Hid (∀ w2 : World, Below W.heap.size W w2 → w2.cell? ⟨B, 0, none⟩ = some (.int .i64 0) ∧ w2.cell? ⟨B, 1, none⟩ = some (.int .i64 0) ∧ w2.frozen? ⟨B, 0, none⟩ = false ∧ w2.frozen? ⟨B, 1, none⟩ = false) := fun w2 hb => by
  have q := heapB hb hk
  exact ⟨cell_of_heap q 0, cell_of_heap q 1, free_of_heap q 0, free_of_heap q 1⟩

set_option maxRecDepth 100000 in
set_option maxHeartbeats 4000000 in
theorem done_c (f1 f2 : Nat) (xm xe ym ye r : Int) (R : Value) (w : World) (hx0 : -9223372036854775808 ≤ xm) (hx1 : xm ≤ 9223372036854775807) (hy0 : -9223372036854775808 ≤ ym) (hy1 : ym ≤ 9223372036854775807)
    (e1 : ∀ args w, (callFunc f1 args).run Tryz.prog w = .ok (.enter f1 args) w) (e2 : ∀ args w, (callFunc f2 args).run Tryz.prog w = .ok (.enter f2 args) w)
    (h1 : RV xm.natAbs xe → RV ym.natAbs ye → ∀ w', Calls Tryz.prog f1 #[.agg #[.int .i64 xm, .int .i64 xe], .agg #[.int .i64 ym, .int .i64 ye]] w' fun en w2 => en = .returned (.int .i64 r) ∧ Below w'.heap.size w' w2)
    (h2 : RV xm.natAbs xe → RV ym.natAbs ye → r = 0 → ∀ w', Calls Tryz.prog f2 #[.agg #[.int .i64 xm, .int .i64 xe], .agg #[.int .i64 ym, .int .i64 ye]] w' fun en w2 => ∃ v, en = .returned v ∧ AmtR w2 v R ∧ Below w'.heap.size w' w2)
    (hR : ∃ a b c, R = .tuple #[.agg #[.int .i64 a, .int .i64 b], .int .i64 c]) :
    Calls Tryz.prog 111 #[.agg #[.func (.func f1) #[] #[], .func (.func f2) #[] #[]], .agg #[.int .i64 xm, .int .i64 xe], .agg #[.int .i64 ym, .int .i64 ye]] w fun en w' => en = .returned (doneR xm xe ym ye r R) ∧ Below w.heap.size w w' := by
  obtain ⟨a, b, c, rfl⟩ := hR
  obtain ⟨W, hW, k0, k1, k2, k3, hbel⟩ := bx4g w #[.func (.func f1) #[] #[], .func (.func f2) #[] #[]] #[.int .i64 xm, .int .i64 xe] #[.int .i64 ym, .int .i64 ye] #[.int .i64 0, .int .i64 0] 113 23 23 23
  have HBEL := Lib.hid hbel
  have FIN := fin2 k3 (by omega) hbel
  have BOX := box2 k3
  have g00 := cell_of_heap k0 0; have g01 := cell_of_heap k0 1; have c00 := cell_of_heap k1 0; have c01 := cell_of_heap k1 1; have c10 := cell_of_heap k2 0; have c11 := cell_of_heap k2 1
  simp at g00 g01 c00 c01 c10 c11
  have HX := Lib.hid (fun w' => validR_c xm xe w' hx0 hx1)
  have HY := Lib.hid (fun w' => validR_c ym ye w' hy0 hy1)
  clear k0 k1 k2 k3 hbel hx0 hx1 hy0 hy1
  by_cases hx : RV xm.natAbs xe
  · rw [show decide (RV xm.natAbs xe) = true from decide_eq_true hx] at HX
    by_cases hy : RV ym.natAbs ye
    · rw [show decide (RV ym.natAbs ye) = true from decide_eq_true hy] at HY
      have H1 := Lib.hid (h1 hx hy)
      clear h1
      by_cases hr : r = 0
      · have hd : doneR xm xe ym ye r (.tuple #[.agg #[.int .i64 a, .int .i64 b], .int .i64 c]) = .tuple #[.agg #[.int .i64 a, .int .i64 b], .int .i64 c] := by unfold doneR; rw [if_pos ⟨hx, hy⟩, if_pos hr]
        rw [hd]
        have H2 := Lib.hid (h2 hx hy hr)
        clear h2
        subst hr
        clear hd hx hy
        go_enter Tryz.func111, Tryz.ntmps111
        go_wp2_with (first
          | (go_at_call 33; (with_reducible refine (HX.out _).mono ?_); rintro en w2 ⟨rfl, hbz⟩; have c10 := keep_cell hbz c10; have c11 := keep_cell hbz c11; have c00 := keep_cell hbz c00; have c01 := keep_cell hbz c01; have g00 := keep_cell hbz g00; have g01 := keep_cell hbz g01; have HB := Lib.hid hbz; clear hbz)
          | (go_at_call 33; (with_reducible refine (HY.out _).mono ?_); rintro en w2 ⟨rfl, hbz⟩; have c10 := keep_cell hbz c10; have c11 := keep_cell hbz c11; have c00 := keep_cell hbz c00; have c01 := keep_cell hbz c01; have g00 := keep_cell hbz g00; have g01 := keep_cell hbz g01; have HB := Lib.hid (belowT HB.out hbz); clear hbz)
          | (go_at_fn f1; (with_reducible refine (H1.out _).mono ?_); rintro en w2 ⟨rfl, hbz⟩; have c10 := keep_cell hbz c10; have c11 := keep_cell hbz c11; have c00 := keep_cell hbz c00; have c01 := keep_cell hbz c01; have g00 := keep_cell hbz g00; have g01 := keep_cell hbz g01; have HB := Lib.hid (belowT HB.out hbz); clear hbz)
          | (go_at_fn f2; (with_reducible refine (H2.out _).mono ?_); rintro en w2 ⟨v, rfl, ha, hbz⟩; have HA := Lib.hid ha; have HB := Lib.hid (belowT HB.out hbz); clear hbz ha)
          | (go_at_call 88; (with_reducible refine (rounded_R HA.out).mono ?_); rintro en w2 ⟨rfl, hbz⟩; have HB := Lib.hid (belowT HB.out hbz); obtain ⟨b0, b1, b2, b3⟩ := BOX.out _ HB.out; clear hbz))
        obtain ⟨r0, r1, hbb⟩ := FIN.out _ a b HB.out
        refine bodyPost_ret (v := .tuple #[.agg #[.int .i64 a, .int .i64 b], .int .i64 c]) (by simp [results, Tryz.results111, go_sem, r0, r1]) rfl ?_
        exact ⟨rfl, hbb⟩
      · have hd : doneR xm xe ym ye r (.tuple #[.agg #[.int .i64 a, .int .i64 b], .int .i64 c]) = .tuple #[.agg #[.int .i64 0, .int .i64 0], .int .i64 r] := by unfold doneR; rw [if_pos ⟨hx, hy⟩, if_neg hr]
        rw [hd]
        clear hd hx hy h2
        have hr' : (r != 0) = true := by simp [hr]
        go_enter Tryz.func111, Tryz.ntmps111
        go_wp2_with (first
          | (go_at_call 33; (with_reducible refine (HX.out _).mono ?_); rintro en w2 ⟨rfl, hbz⟩; have c10 := keep_cell hbz c10; have c11 := keep_cell hbz c11; have c00 := keep_cell hbz c00; have c01 := keep_cell hbz c01; have g00 := keep_cell hbz g00; have g01 := keep_cell hbz g01; have HB := Lib.hid hbz; clear hbz)
          | (go_at_call 33; (with_reducible refine (HY.out _).mono ?_); rintro en w2 ⟨rfl, hbz⟩; have c10 := keep_cell hbz c10; have c11 := keep_cell hbz c11; have c00 := keep_cell hbz c00; have c01 := keep_cell hbz c01; have g00 := keep_cell hbz g00; have g01 := keep_cell hbz g01; have HB := Lib.hid (belowT HB.out hbz); clear hbz)
          | (go_at_fn f1; (with_reducible refine (H1.out _).mono ?_); rintro en w2 ⟨rfl, hbz⟩; have c10 := keep_cell hbz c10; have c11 := keep_cell hbz c11; have c00 := keep_cell hbz c00; have c01 := keep_cell hbz c01; have g00 := keep_cell hbz g00; have g01 := keep_cell hbz g01; have HB := Lib.hid (belowT HB.out hbz); obtain ⟨b0, b1, b2, b3⟩ := BOX.out _ HB.out; clear hbz))
        obtain ⟨r0, r1, hbb⟩ := FIN.out _ 0 0 HB.out
        refine bodyPost_ret (v := .tuple #[.agg #[.int .i64 0, .int .i64 0], .int .i64 r]) (by simp [results, Tryz.results111, go_sem, r0, r1]) rfl ?_
        exact ⟨rfl, hbb⟩
    · have hd : doneR xm xe ym ye r (.tuple #[.agg #[.int .i64 a, .int .i64 b], .int .i64 c]) = .tuple #[.agg #[.int .i64 0, .int .i64 0], .int .i64 1] := by unfold doneR; rw [if_neg fun h => hy h.2]
      rw [hd]
      rw [show decide (RV ym.natAbs ye) = false from decide_eq_false hy] at HY
      clear hd hx hy h1 h2
      go_enter Tryz.func111, Tryz.ntmps111
      go_wp2_with (first
          | (go_at_call 33; (with_reducible refine (HX.out _).mono ?_); rintro en w2 ⟨rfl, hbz⟩; have c10 := keep_cell hbz c10; have c11 := keep_cell hbz c11; have c00 := keep_cell hbz c00; have c01 := keep_cell hbz c01; have g00 := keep_cell hbz g00; have g01 := keep_cell hbz g01; have HB := Lib.hid hbz; clear hbz)
          | (go_at_call 33; (with_reducible refine (HY.out _).mono ?_); rintro en w2 ⟨rfl, hbz⟩; have c10 := keep_cell hbz c10; have c11 := keep_cell hbz c11; have c00 := keep_cell hbz c00; have c01 := keep_cell hbz c01; have g00 := keep_cell hbz g00; have g01 := keep_cell hbz g01; have HB := Lib.hid (belowT HB.out hbz); obtain ⟨b0, b1, b2, b3⟩ := BOX.out _ HB.out; clear hbz))
      obtain ⟨r0, r1, hbb⟩ := FIN.out _ 0 0 HB.out
      refine bodyPost_ret (v := .tuple #[.agg #[.int .i64 0, .int .i64 0], .int .i64 1]) (by simp [results, Tryz.results111, go_sem, r0, r1]) rfl ?_
      exact ⟨rfl, hbb⟩
  · have hd : doneR xm xe ym ye r (.tuple #[.agg #[.int .i64 a, .int .i64 b], .int .i64 c]) = .tuple #[.agg #[.int .i64 0, .int .i64 0], .int .i64 1] := by unfold doneR; rw [if_neg fun h => hx h.1]
    rw [hd]
    rw [show decide (RV xm.natAbs xe) = false from decide_eq_false hx] at HX
    clear hd hx h1 h2
    go_enter Tryz.func111, Tryz.ntmps111
    go_wp2_with (first
          | (go_at_call 33; (with_reducible refine (HX.out _).mono ?_); rintro en w2 ⟨rfl, hbz⟩; have c10 := keep_cell hbz c10; have c11 := keep_cell hbz c11; have c00 := keep_cell hbz c00; have c01 := keep_cell hbz c01; have g00 := keep_cell hbz g00; have g01 := keep_cell hbz g01; have HB := Lib.hid hbz; obtain ⟨b0, b1, b2, b3⟩ := BOX.out _ HB.out; clear hbz))
    obtain ⟨r0, r1, hbb⟩ := FIN.out _ 0 0 HB.out
    refine bodyPost_ret (v := .tuple #[.agg #[.int .i64 0, .int .i64 0], .int .i64 1]) (by simp [results, Tryz.results111, go_sem, r0, r1]) rfl ?_
    exact ⟨rfl, hbb⟩
end Go.Proofs.YtekbfommnmikbaaGreatDoor
/- Package real: Sum. -/
namespace Go.Proofs.YtekbfommnmikbaaGreatDoor
set_option linter.unusedVariables false
set_option linter.unusedSimpArgs false
open Go.RowKit Go.Shelf Go.Proofs
attribute [local go_sem ↓] Go.wp_at_zero Go.wp_at_succ

set_option maxHeartbeats 1000000 in
theorem sumf_c (m e : Int) (w : World) (h0 : -9223372036854775808 ≤ m) (h1 : m ≤ 9223372036854775807) : Calls Tryz.prog 116 #[.agg #[.int .i64 m, .int .i64 e]] w fun en w' => en = .returned (.bool (!decide (RV m.natAbs e))) ∧ Below w.heap.size w w' := by
  obtain ⟨b, hb⟩ : ∃ b, decide (RV m.natAbs e) = b := ⟨_, rfl⟩
  have HV := Lib.hid (fun w' => validR_c m e w' h0 h1)
  rw [hb] at HV ⊢
  clear hb h0 h1
  go_enter Tryz.func116, Tryz.ntmps116
  go_wp2_with (go_at_call 33; (with_reducible refine (HV.out _).mono ?_); rintro en w2 ⟨rfl, hbz⟩; have HB2 := Lib.hid hbz; clear hbz)
  go_ret
  exact ⟨rfl, belowT ((Below.refl _ _).alloc (Nat.le_refl _) _) HB2.out⟩

/-- Ints. -/
def In64 (l : List (Int × Int)) : Prop := ∀ p ∈ l, -9223372036854775808 ≤ p.1 ∧ p.1 ≤ 9223372036854775807

set_option maxRecDepth 100000 in
set_option maxHeartbeats 2000000 in
theorem indexfR_c (A : Option Addr) (c : Nat) (l : List (Int × Int)) (w : World) (hr : Reals w A l) (hi : In64 l) (hl : l.length ≤ 9223372036854775807) :
    Calls Tryz.prog 176 #[.slice A l.length c, .func (.func 116) #[] #[]] w fun e w' => (∃ i : Int, e = .returned (.int .i64 i) ∧ (0 ≤ i ↔ ∃ p ∈ l, ¬ RV p.1.natAbs p.2)) ∧ Below w.heap.size w w' := by
  have HR := Lib.hid hr; have HI := Lib.hid hi
  clear hr hi
  go_enter Tryz.func176, Tryz.ntmps176
  go_wp2_with fail
  go_loopg [8] l.length (fun g iv wr => ∃ k : Nat, iv = .int .i64 (k : Int) ∧ k + g = l.length ∧ Hid (∀ p ∈ l.take k, RV p.1.natAbs p.2) ∧ Hid (Below w.heap.size w wr))
  case atStart => exact ⟨0, rfl, by omega, fun x hx => by simp at hx, Below.refl _ _⟩
  case round =>
    obtain ⟨k, rfl, hk, HZ, HB⟩ := hrel
    by_cases hlt : k < l.length
    · obtain ⟨a, rfl, hc0, hc1⟩ := (HR.out.below HB.out) k hlt
      have HT := Lib.hid (drop_take' hlt (d := l[k]?.getD (0, 0)) (x := (0, 0)) rfl)
      have hmem : l[k]?.getD (0, 0) ∈ l := by rw [List.getElem?_eq_getElem hlt]; exact List.getElem_mem hlt
      have h64 := HI.out _ hmem
      obtain ⟨m, e, hme⟩ : ∃ m e, l[k]?.getD (0, 0) = (m, e) := ⟨_, _, rfl⟩
      rw [hme] at hc0 hc1 h64 HT hmem
      dsimp only at hc0 hc1 h64
      have hc1' : wr.cell? { block := (a.add (k * 2)).block, off := (a.add (k * 2)).off + 1, spot := none } = some (.int .i64 e) := hc1
      have HM := Lib.hid hmem
      have HK := Lib.hid hk
      have HF := Lib.hid (fun w' => sumf_c m e w' h64.1 h64.2)
      clear hk hmem hme h64
      by_cases hv : RV m.natAbs e
      · rw [show (!decide (RV m.natAbs e)) = false from by rw [decide_eq_true hv]; rfl] at HF
        have HV := Lib.hid hv
        clear hv
        go_wp2_with (go_at_call 116; (with_reducible refine (HF.out _).mono ?_); rintro en w2 ⟨rfl, hbz⟩; have HB2 := Lib.hid hbz; clear hbz)
        go_roundg (gk - 1)
        case measure => have := HK.out; omega
        case rel =>
          refine ⟨k + 1, by go_num, by have := HK.out; omega, fun y hy => ?_, belowT HB.out HB2.out⟩
          rw [HT.out] at hy
          rcases List.mem_append.1 hy with hy | hy
          · exact HZ.out y hy
          · rw [List.mem_singleton.1 hy]; exact HV.out
      · rw [show (!decide (RV m.natAbs e)) = true from by rw [decide_eq_false hv]; rfl] at HF
        have HV := Lib.hid hv
        clear hv
        go_wp2_with (go_at_call 116; (with_reducible refine (HF.out _).mono ?_); rintro en w2 ⟨rfl, hbz⟩; have HB2 := Lib.hid hbz; clear hbz)
        go_ret
        exact ⟨⟨_, rfl, fun _ => ⟨_, HM.out, HV.out⟩, fun _ => by omega⟩, belowT HB.out HB2.out⟩
    · have HN : Hid (¬ ∃ p ∈ l, ¬ RV p.1.natAbs p.2) := by
        rintro ⟨x, hx, h0⟩
        exact h0 (HZ.out x (by rw [List.take_of_length_le (by omega)]; exact hx))
      go_wp2_with fail
      go_ret
      exact ⟨⟨_, rfl, fun h => by omega, fun h => absurd h HN.out⟩, HB.out⟩

set_option maxHeartbeats 1000000 in
theorem containsfR_c (A : Option Addr) (c : Nat) (l : List (Int × Int)) (b : Bool) (w : World) (hr : Reals w A l) (hi : In64 l) (hl : l.length ≤ 9223372036854775807) (hb : b = true ↔ ∃ p ∈ l, ¬ RV p.1.natAbs p.2) :
    Calls Tryz.prog 115 #[.slice A l.length c, .func (.func 116) #[] #[]] w fun e w' => e = .returned (.bool b) ∧ Below w.heap.size w w' := by
  have HR := Lib.hid hr; have HL := Lib.hid hl; have HBB := Lib.hid hb; have HIN := Lib.hid hi
  clear hr hl hb hi
  go_enter Tryz.func115, Tryz.ntmps115
  go_wp2_with (go_at_call 176; (with_reducible refine (indexfR_c A c l _ HR.out HIN.out HL.out).mono ?_); rintro e w' ⟨⟨i, rfl, hi⟩, hbz⟩; have HI := Lib.hid hi; have HB2 := Lib.hid hbz; clear hi hbz)
  go_ret
  refine ⟨?_, HB2.out⟩
  rw [show b = decide (0 ≤ i) from by rw [Bool.eq_iff_iff, HBB.out, decide_eq_true_iff]; exact HI.out.symm]
  rfl

/-- The exact sum, rounded. -/
def sumR (l : List (Int × Int)) : Value := resR (decide (sumV l < 0)) (rnd (sumV l).natAbs (-222))
theorem sum_R (A : Option Addr) (c : Nat) (l : List (Int × Int)) (w : World) (hr : Reals w A l) (hv : ∀ p ∈ l, RV p.1.natAbs p.2) (hl : l.length ≤ 1000) :
    Calls Tryz.prog 110 #[.slice A l.length c] w fun en w' => ∃ v, en = .returned v ∧ AmtR w' v (sumR l) ∧ Below w.heap.size w w' := by
  refine (sum_c A c l w hr hv hl).mono ?_
  rintro en w' ⟨v, ds, rfl, ha, hi, hd, hn, hb⟩
  refine ⟨v, rfl, ⟨_, ds, _, _, ha, hi, by omega, by omega, by omega, ?_⟩, hb⟩
  unfold sumR
  rw [show withMore ds false = ds from rfl, show expMore (-222) false = -222 from rfl, hd, Int.toNat_natCast]
theorem res_sumR (l : List (Int × Int)) : ∃ a b c, sumR l = .tuple #[.agg #[.int .i64 a, .int .i64 b], .int .i64 c] := res_form _ _

/-- What Sum returns. -/
def okL (l : List (Int × Int)) : Bool := l.all fun p => decide (RV p.1.natAbs p.2)
def sumX (l : List (Int × Int)) : Value := if 1000 < l.length then .tuple #[.agg #[.int .i64 0, .int .i64 0], .int .i64 2] else if okL l = true then sumR l else .tuple #[.agg #[.int .i64 0, .int .i64 0], .int .i64 1]
theorem bx1h (w : World) (a0 : Array Value) (t0 : TypeId) : ∃ W, w.alloc (.cells a0 t0) = W ∧ W.heap[w.heap.size]? = some (.cells a0 t0 (0, 0)) ∧ Below w.heap.size w W :=
  ⟨_, rfl, heap_alloc_new _ _, (Below.refl _ _).alloc (Nat.le_refl _) _⟩

set_option maxRecDepth 100000 in
set_option maxHeartbeats 2000000 in
theorem sumX_c (A : Option Addr) (c : Nat) (l : List (Int × Int)) (w : World) (hr : Reals w A l) (hi : In64 l) (hl : l.length ≤ 9223372036854775807) :
    Calls Tryz.prog 40 #[.slice A l.length c] w fun en w' => en = .returned (sumX l) ∧ Below w.heap.size w w' := by
  obtain ⟨W, hW, k0, hbel⟩ := bx1h w #[.int .i64 0, .int .i64 0] 23
  have HBEL := Lib.hid hbel
  have FIN := fin2 k0 (Nat.le_refl _) hbel
  have BOX := box2 k0
  have HR := Lib.hid (hr.below hbel); have HIN := Lib.hid hi; have HL := Lib.hid hl
  clear k0 hbel hr hi
  by_cases h : 1000 < l.length
  · have e : sumX l = .tuple #[.agg #[.int .i64 0, .int .i64 0], .int .i64 2] := by unfold sumX; rw [if_pos h]
    rw [e]
    clear e
    have h' : (1000 : Int) < (l.length : Int) := by omega
    obtain ⟨b0, b1, b2, b3⟩ := BOX.out W (Below.refl _ _)
    go_enter Tryz.func40, Tryz.ntmps40
    go_wp2_with fail
    obtain ⟨r0, r1, hbb⟩ := FIN.out W 0 0 (Below.refl _ _)
    refine bodyPost_ret (v := .tuple #[.agg #[.int .i64 0, .int .i64 0], .int .i64 2]) (by simp [results, Tryz.results40, go_sem, r0, r1]) rfl ?_
    exact ⟨rfl, hbb⟩
  · have h' : ¬ (1000 : Int) < (l.length : Int) := by omega
    obtain ⟨ok, hok⟩ : ∃ b, okL l = b := ⟨_, rfl⟩
    have hb : (!ok) = true ↔ ∃ p ∈ l, ¬ RV p.1.natAbs p.2 := by
      rw [← hok]
      unfold okL
      rw [Bool.not_eq_true', ← Bool.not_eq_true, List.all_eq_true]
      simp
    have HCF := Lib.hid (fun w' (hr' : Reals w' A l) => containsfR_c A c l (!ok) w' hr' HIN.out HL.out hb)
    clear hb
    cases ok
    · have e : sumX l = .tuple #[.agg #[.int .i64 0, .int .i64 0], .int .i64 1] := by unfold sumX; rw [if_neg h, if_neg (by rw [hok]; decide)]
      rw [e]
      clear e hok
      go_enter Tryz.func40, Tryz.ntmps40
      go_wp2_with (go_at_call 115; (with_reducible refine (HCF.out _ HR.out).mono ?_); rintro en w2 ⟨rfl, hbz⟩; obtain ⟨b0, b1, b2, b3⟩ := BOX.out _ hbz; have HB2 := Lib.hid hbz; clear hbz)
      obtain ⟨r0, r1, hbb⟩ := FIN.out w2 0 0 HB2.out
      refine bodyPost_ret (v := .tuple #[.agg #[.int .i64 0, .int .i64 0], .int .i64 1]) (by simp [results, Tryz.results40, go_sem, r0, r1]) rfl ?_
      exact ⟨rfl, hbb⟩
    · have e : sumX l = sumR l := by unfold sumX; rw [if_neg h, if_pos hok]
      have hv : ∀ p ∈ l, RV p.1.natAbs p.2 := by
        intro p hp
        unfold okL at hok
        exact of_decide_eq_true (List.all_eq_true.1 hok p hp)
      have HSM := Lib.hid (fun w' (hr' : Reals w' A l) => sum_R A c l w' hr' hv (by omega))
      rw [e]
      obtain ⟨a, b, d, hres⟩ := res_sumR l
      rw [hres] at HSM ⊢
      clear e hok hv hres
      go_enter Tryz.func40, Tryz.ntmps40
      go_wp2_with (first
        | (go_at_call 115; (with_reducible refine (HCF.out _ HR.out).mono ?_); rintro en w2 ⟨rfl, hbz⟩; have HB2 := Lib.hid hbz; clear hbz)
        | (go_at_call 110; (with_reducible refine (HSM.out _ (HR.out.below HB2.out)).mono ?_); rintro en w3 ⟨v, rfl, ha, hbz⟩; have HA := Lib.hid ha; have HB3 := Lib.hid (belowT HB2.out hbz); clear hbz ha)
        | (go_at_call 88; (with_reducible refine (rounded_R HA.out).mono ?_); rintro en w4 ⟨rfl, hbz⟩; have hb4 := belowT HB3.out hbz; obtain ⟨b0, b1, b2, b3⟩ := BOX.out _ hb4; have HB4 := Lib.hid hb4; clear hbz hb4))
      obtain ⟨r0, r1, hbb⟩ := FIN.out w4 a b HB4.out
      refine bodyPost_ret (v := .tuple #[.agg #[.int .i64 a, .int .i64 b], .int .i64 d]) (by simp [results, Tryz.results40, go_sem, r0, r1]) rfl ?_
      exact ⟨rfl, hbb⟩
end Go.Proofs.YtekbfommnmikbaaGreatDoor
/- Package real: Scale. -/
namespace Go.Proofs.YtekbfommnmikbaaGreatDoor
set_option linter.unusedVariables false
set_option linter.unusedSimpArgs false
open Go.RowKit Go.Shelf Go.Proofs
attribute [local go_sem ↓] Go.wp_at_zero Go.wp_at_succ

/-- What Scale returns. -/
def scaleR (m e n : Int) : Value :=
  if ¬ RV m.natAbs e then .tuple #[.agg #[.int .i64 0, .int .i64 0], .int .i64 1]
  else if 1000 < n ∨ n < -1000 then .tuple #[.agg #[.int .i64 0, .int .i64 0], .int .i64 1]
  else resR (decide (m < 0)) (rnd m.natAbs (e + n))

set_option maxRecDepth 100000 in
set_option maxHeartbeats 4000000 in
theorem scaleR_c (m e n : Int) (w : World) (h0 : -9223372036854775808 ≤ m) (h1 : m ≤ 9223372036854775807) :
    Calls Tryz.prog 18 #[.agg #[.int .i64 m, .int .i64 e], .int .i64 n] w fun en w' => en = .returned (scaleR m e n) ∧ Below w.heap.size w w' := by
  obtain ⟨W, hW, k0, k1, hbel, hsz⟩ := bx2h w #[.int .i64 m, .int .i64 e] #[.int .i64 0, .int .i64 0] 23 23
  have HBEL := Lib.hid hbel
  have FIN := fin2 k1 (by omega) hbel
  have BOX := box2 k1
  have c00 := cell_of_heap k0 0; have c01 := cell_of_heap k0 1
  simp at c00 c01
  have HV := Lib.hid (fun w' => validR_c m e w' h0 h1)
  clear k0 k1 hbel hsz
  by_cases h : RV m.natAbs e
  · rw [show decide (RV m.natAbs e) = true from decide_eq_true h] at HV
    have hnn : ¬ ¬ RV m.natAbs e := fun x => x h
    by_cases a : 1000 < n ∨ n < -1000
    · have hr : scaleR m e n = .tuple #[.agg #[.int .i64 0, .int .i64 0], .int .i64 1] := by unfold scaleR; rw [if_neg hnn, if_pos a]
      rw [hr]
      have hcase : 1000 < n ∨ (¬ 1000 < n ∧ n < -1000) := by omega
      clear hr hnn h a
      go_enter Tryz.func18, Tryz.ntmps18
      rcases hcase with a1 | ⟨a1, a2⟩
      all_goals
        go_wp2_with (go_at_call 33; (with_reducible refine (HV.out _).mono ?_); rintro en w2 ⟨rfl, hbz⟩; have c00 := keep_cell hbz c00; have c01 := keep_cell hbz c01; obtain ⟨b0, b1, b2, b3⟩ := BOX.out _ hbz; have HB := Lib.hid hbz; clear hbz)
        obtain ⟨r0, r1, hbb⟩ := FIN.out _ 0 0 HB.out
        refine bodyPost_ret (v := .tuple #[.agg #[.int .i64 0, .int .i64 0], .int .i64 1]) (by simp [results, Tryz.results18, go_sem, r0, r1]) rfl ?_
        exact ⟨rfl, hbb⟩
    · have a1 : ¬ 1000 < n := by omega
      have a2 : ¬ n < -1000 := by omega
      have hr : scaleR m e n = resR (decide (m < 0)) (rnd m.natAbs (e + n)) := by unfold scaleR; rw [if_neg hnn, if_neg a]
      rw [hr]
      obtain ⟨x0, x1, x2⟩ := RV_abs h
      have HAM := Lib.hid (fun w' => amountOf_c m e w' (by omega))
      obtain ⟨s, hs⟩ : ∃ s, decide (m < 0) = s := ⟨_, rfl⟩
      obtain ⟨ds, hds⟩ : ∃ ds, (dg 10 m.natAbs).reverse = ds := ⟨_, rfl⟩
      have hl := dgR_len h
      have hi := inR_dgR m.natAbs
      have hv := vd_dg m.natAbs
      rw [hs, hds] at HAM
      rw [hds] at hl hi hv
      rw [hs]
      have HRD := Lib.hid (fun A c w' (hr : Row .u8 w' A ds) hc hm => rounded_c s A c ds (e + n) false w' hr hc hm hi (by omega) (by omega) (by omega))
      rw [show withMore ds false = ds from rfl, show expMore (e + n) false = e + n from rfl, hv, Int.toNat_natCast] at HRD
      obtain ⟨a', b', c', hf⟩ := res_form s (rnd m.natAbs (e + n))
      rw [hf] at HRD ⊢
      clear hr hnn h hs hds hl hi hv hf a x0
      go_enter Tryz.func18, Tryz.ntmps18
      go_wp2_with (first
        | (go_at_call 33; (with_reducible refine (HV.out _).mono ?_); rintro en w2 ⟨rfl, hbz⟩; have c00 := keep_cell hbz c00; have c01 := keep_cell hbz c01; have HB := Lib.hid hbz; clear hbz)
        | (go_at_call 87; (with_reducible refine (HAM.out _).mono ?_); rintro en w3 ⟨v, rfl, ⟨A9, c9, rfl, hc9, hm9, hr9⟩, hbz⟩; have HR9 := Lib.hid hr9; have HC9 := Lib.hid hc9; have HM9 := Lib.hid hm9; have HB := Lib.hid (belowT HB.out hbz); clear hbz hr9 hc9 hm9)
        | (go_at_call 88; (with_reducible refine (HRD.out A9 c9 _ (HR9.out.below ((Below.refl _ _).alloc (Nat.le_refl _) _)) HC9.out HM9.out).mono ?_); rintro en w4 ⟨rfl, hbz⟩; have HB := Lib.hid (belowT (belowA HB.out _) hbz); obtain ⟨b0, b1, b2, b3⟩ := BOX.out _ HB.out; clear hbz))
      obtain ⟨r0, r1, hbb⟩ := FIN.out _ a' b' HB.out
      refine bodyPost_ret (v := .tuple #[.agg #[.int .i64 a', .int .i64 b'], .int .i64 c']) (by simp [results, Tryz.results18, go_sem, r0, r1]) rfl ?_
      exact ⟨rfl, hbb⟩
  · rw [show decide (RV m.natAbs e) = false from decide_eq_false h] at HV
    have hr : scaleR m e n = .tuple #[.agg #[.int .i64 0, .int .i64 0], .int .i64 1] := by unfold scaleR; rw [if_pos h]
    rw [hr]
    clear hr h
    go_enter Tryz.func18, Tryz.ntmps18
    go_wp2_with (go_at_call 33; (with_reducible refine (HV.out _).mono ?_); rintro en w2 ⟨rfl, hbz⟩; have c00 := keep_cell hbz c00; have c01 := keep_cell hbz c01; obtain ⟨b0, b1, b2, b3⟩ := BOX.out _ hbz; have HB := Lib.hid hbz; clear hbz)
    obtain ⟨r0, r1, hbb⟩ := FIN.out _ 0 0 HB.out
    refine bodyPost_ret (v := .tuple #[.agg #[.int .i64 0, .int .i64 0], .int .i64 1]) (by simp [results, Tryz.results18, go_sem, r0, r1]) rfl ?_
    exact ⟨rfl, hbb⟩
end Go.Proofs.YtekbfommnmikbaaGreatDoor
/- Package real: Round. -/
namespace Go.Proofs.YtekbfommnmikbaaGreatDoor
set_option linter.unusedVariables false
set_option linter.unusedSimpArgs false
open Go.RowKit Go.Shelf Go.Proofs
attribute [local go_sem ↓] Go.wp_at_zero Go.wp_at_succ

theorem row_add {kd : IntKind} {w : World} {a : Addr} {l : List Int} (k : Nat) (h : Row kd w (some a) l) : Row kd w (some (a.add k)) (l.drop k) := by
  rcases Nat.eq_zero_or_pos k with rfl | hk
  · simpa [Addr.add] using h
  · have := row_drop hk h
    rwa [show a.add k = ⟨a.block, a.off + k, none⟩ from by unfold Addr.add; rw [if_neg (by omega)]]
theorem two_off {w : World} {B : Nat} (i j : Nat) (u v : Value) : ∀ g, g ≠ B → ((w.setCell ⟨B, i, none⟩ u).setCell ⟨B, j, none⟩ v).heap[g]? = w.heap[g]? := fun g hg => by
  rw [Below.heap_setCell _ _ _ _ hg, Below.heap_setCell _ _ _ _ hg]
/-- What Round returns. -/
def roundR (m e p : Int) : Value :=
  if ¬ RV m.natAbs e then .tuple #[.agg #[.int .i64 0, .int .i64 0], .int .i64 1]
  else if 1000 < p ∨ p < -1000 then .tuple #[.agg #[.int .i64 0, .int .i64 0], .int .i64 1]
  else if -p - e ≤ 0 then .tuple #[.agg #[.int .i64 m, .int .i64 e], .int .i64 0]
  else if (nd m.natAbs : Int) < -p - e then .tuple #[.agg #[.int .i64 0, .int .i64 0], .int .i64 0]
  else resR (decide (m < 0)) (rnd (rdiv m.natAbs (-p - e).toNat) (-p))

set_option maxRecDepth 100000 in
set_option maxHeartbeats 4000000 in
theorem roundR_c (m e p : Int) (w : World) (h0 : -9223372036854775808 ≤ m) (h1 : m ≤ 9223372036854775807) :
    Calls Tryz.prog 19 #[.agg #[.int .i64 m, .int .i64 e], .int .i64 p] w fun en w' => en = .returned (roundR m e p) ∧ Below w.heap.size w w' := by
  obtain ⟨W, hW, k0, k1, hbel, hsz⟩ := bx2h w #[.int .i64 m, .int .i64 e] #[.int .i64 0, .int .i64 0] 23 23
  have HBEL := Lib.hid hbel
  have FIN := fin2 k1 (by omega) hbel
  have BOX := box2 k1
  have c00 := cell_of_heap k0 0; have c01 := cell_of_heap k0 1
  simp at c00 c01
  have HV := Lib.hid (fun w' => validR_c m e w' h0 h1)
  clear k0 k1 hbel hsz
  by_cases h : RV m.natAbs e
  · rw [show decide (RV m.natAbs e) = true from decide_eq_true h] at HV
    have hnn : ¬ ¬ RV m.natAbs e := fun x => x h
    by_cases a : 1000 < p ∨ p < -1000
    · have hr : roundR m e p = .tuple #[.agg #[.int .i64 0, .int .i64 0], .int .i64 1] := by unfold roundR; rw [if_neg hnn, if_pos a]
      rw [hr]
      have hcase : 1000 < p ∨ (¬ 1000 < p ∧ p < -1000) := by omega
      clear hr hnn h a
      go_enter Tryz.func19, Tryz.ntmps19
      rcases hcase with a1 | ⟨a1, a2⟩
      all_goals
        go_wp2_with (go_at_call 33; (with_reducible refine (HV.out _).mono ?_); rintro en w2 ⟨rfl, hbz⟩; have c00 := keep_cell hbz c00; have c01 := keep_cell hbz c01; obtain ⟨b0, b1, b2, b3⟩ := BOX.out _ hbz; have HB := Lib.hid hbz; clear hbz)
        obtain ⟨r0, r1, hbb⟩ := FIN.out _ 0 0 HB.out
        refine bodyPost_ret (v := .tuple #[.agg #[.int .i64 0, .int .i64 0], .int .i64 1]) (by simp [results, Tryz.results19, go_sem, r0, r1]) rfl ?_
        exact ⟨rfl, hbb⟩
    have a1 : ¬ 1000 < p := by omega
    have a2 : ¬ p < -1000 := by omega
    obtain ⟨x0, x1, x2⟩ := RV_abs h
    have HAM := Lib.hid (fun w' => amountOf_c m e w' (by omega))
    obtain ⟨s, hs⟩ : ∃ s, decide (m < 0) = s := ⟨_, rfl⟩
    obtain ⟨ds, hds⟩ : ∃ ds, (dg 10 m.natAbs).reverse = ds := ⟨_, rfl⟩
    have hl := dgR_len h
    have hi := inR_dgR m.natAbs
    have hv := vd_dg m.natAbs
    have hn : ds.length = nd m.natAbs := by rw [← hds, List.length_reverse]; rfl
    rw [hs, hds] at HAM
    rw [hds] at hl hi hv
    have HI := Lib.hid hi
    obtain ⟨L, hL⟩ : ∃ L, ds.length = L := ⟨_, rfl⟩
    rw [hL] at hl hn
    have HL := Lib.hid hL
    obtain ⟨cut, hcut⟩ : ∃ cut, -p - e = cut := ⟨_, rfl⟩
    by_cases b : cut ≤ 0
    · have hr : roundR m e p = .tuple #[.agg #[.int .i64 m, .int .i64 e], .int .i64 0] := by unfold roundR; rw [if_neg hnn, if_neg a, hcut, if_pos b]
      rw [hr]
      clear hr hnn h hs hds hi hv hn a
      go_enter Tryz.func19, Tryz.ntmps19
      go_upto_region 5 with (first
        | (go_at_call 33; (with_reducible refine (HV.out _).mono ?_); rintro en w2 ⟨rfl, hbz⟩; have c00 := keep_cell hbz c00; have c01 := keep_cell hbz c01; have HB := Lib.hid hbz; clear hbz)
        | (go_at_call 87; (with_reducible refine (HAM.out _).mono ?_); rintro en w3 ⟨v, rfl, ⟨A9, c9, rfl, hc9, hm9, hr9⟩, hbz⟩; have c00 := keep_cell hbz c00; have c01 := keep_cell hbz c01; have HB := Lib.hid (belowT HB.out hbz); clear hbz hr9 hc9 hm9))
      obtain ⟨W4, hW4⟩ : ∃ W4, w3.alloc (.cells #[.bool s, .slice A9 L c9, .int .i64 e, .bool false] 95) = W4 := ⟨_, rfl⟩
      have hb4 : Below w3.heap.size w3 W4 := by rw [← hW4]; exact (Below.refl _ _).alloc (Nat.le_refl _) _
      rw [hW4]
      have c00 := keep_cell hb4 c00; have c01 := keep_cell hb4 c01
      have HB4 := Lib.hid (belowT HB.out hb4)
      obtain ⟨b0, b1, b2, b3⟩ := BOX.out _ HB4.out
      clear hW4 hb4
      go_wp2_with fail
      obtain ⟨r0, r1, hbb⟩ := FIN.out _ m e HB4.out
      refine bodyPost_ret (v := .tuple #[.agg #[.int .i64 m, .int .i64 e], .int .i64 0]) (by simp [results, Tryz.results19, go_sem, r0, r1]) rfl ?_
      exact ⟨rfl, hbb⟩
    obtain ⟨C, hC⟩ : ∃ C : Nat, cut = (C : Int) := ⟨cut.toNat, by omega⟩
    subst hC
    have hC0 : 0 < C := by omega
    clear b
    by_cases d : L < C
    · have hr : roundR m e p = .tuple #[.agg #[.int .i64 0, .int .i64 0], .int .i64 0] := by unfold roundR; rw [if_neg hnn, if_neg a, hcut, if_neg (by omega), if_pos (by omega)]
      rw [hr]
      clear hr hnn h hs hds hi hv hn a
      go_enter Tryz.func19, Tryz.ntmps19
      go_upto_region 5 with (first
        | (go_at_call 33; (with_reducible refine (HV.out _).mono ?_); rintro en w2 ⟨rfl, hbz⟩; have c00 := keep_cell hbz c00; have c01 := keep_cell hbz c01; have HB := Lib.hid hbz; clear hbz)
        | (go_at_call 87; (with_reducible refine (HAM.out _).mono ?_); rintro en w3 ⟨v, rfl, ⟨A9, c9, rfl, hc9, hm9, hr9⟩, hbz⟩; have c00 := keep_cell hbz c00; have c01 := keep_cell hbz c01; have HB := Lib.hid (belowT HB.out hbz); clear hbz hr9 hc9 hm9))
      obtain ⟨W4, hW4⟩ : ∃ W4, w3.alloc (.cells #[.bool s, .slice A9 L c9, .int .i64 e, .bool false] 95) = W4 := ⟨_, rfl⟩
      have hb4 : Below w3.heap.size w3 W4 := by rw [← hW4]; exact (Below.refl _ _).alloc (Nat.le_refl _) _
      have hq4 : W4.heap[w3.heap.size]? = some (.cells #[.bool s, .slice A9 L c9, .int .i64 e, .bool false] 95 (0, 0)) := by rw [← hW4]; exact heap_alloc_new _ _
      rw [hW4]
      have c00 := keep_cell hb4 c00; have c01 := keep_cell hb4 c01
      have a00 := cell_of_heap hq4 0; have a01 := cell_of_heap hq4 1; have a02 := cell_of_heap hq4 2; have a03 := cell_of_heap hq4 3
      simp at a00 a01 a02 a03
      have hB4 := belowT HB.out hb4
      obtain ⟨b0, b1, b2, b3⟩ := BOX.out _ hB4
      have HB4 := Lib.hid hB4
      clear hb4 hq4 hB4
      go_wp2_with fail
      obtain ⟨r0, r1, hbb⟩ := FIN.out _ 0 0 HB4.out
      refine bodyPost_ret (v := .tuple #[.agg #[.int .i64 0, .int .i64 0], .int .i64 0]) (by simp [results, Tryz.results19, go_sem, r0, r1]) rfl ?_
      exact ⟨rfl, hbb⟩
    have hL12 : L = 12 := by
      have h1 : 0 < m.natAbs := by
        rcases Nat.eq_zero_or_pos m.natAbs with e0 | e0
        · rw [e0, nd_zero] at hn; omega
        · exact e0
      have h2 : 100000000000 ≤ m.natAbs := by unfold RV at h; omega
      have h3 := nd_eq (n := m.natAbs) (k := 11) (by omega) (by omega)
      omega
    subst hL12
    obtain ⟨K, hK⟩ : ∃ K : Nat, K = 12 - C := ⟨_, rfl⟩
    have hKC : (12 : Int) - (C : Int) = (K : Int) := by omega
    have hK12 : K < 12 := by omega
    have hr : roundR m e p = resR s (rnd (rdiv m.natAbs C) (-p)) := by unfold roundR; rw [if_neg hnn, if_neg a, hcut, if_neg (by omega), if_neg (by omega), Int.toNat_natCast, hs]
    rw [hr]
    have hrd := rdiv_cut hi K (by omega)
    rw [hv, Int.toNat_natCast, hL, show 12 - K = C by omega] at hrd
    have HKC := Lib.hid hKC
    obtain ⟨a', b', c', hf⟩ := res_form s (rnd (rdiv m.natAbs C) (-p))
    rw [hf]
    have HF := Lib.hid hf
    have HRDV := Lib.hid hrd
    have hKl : (ds.take K).length = K := by rw [List.length_take]; omega
    have hKi := hi.take K
    have hKlt : vd (ds.take K) < 1000000000000 := by
      have h1 := vd_lt hKi
      rw [hKl] at h1
      have h2 : (10 : Int) ^ K ≤ 10 ^ 12 := pow_mono' (b := 10) (by decide) (by omega)
      have h3 : (10 : Int) ^ 12 = 1000000000000 := by decide
      omega
    clear hr hnn h hs hds hv hn a hrd hf
    go_enter Tryz.func19, Tryz.ntmps19
    go_upto_region 5 with (first
        | (go_at_call 33; (with_reducible refine (HV.out _).mono ?_); rintro en w2 ⟨rfl, hbz⟩; have c00 := keep_cell hbz c00; have c01 := keep_cell hbz c01; have HB := Lib.hid hbz; clear hbz)
        | (go_at_call 87; (with_reducible refine (HAM.out _).mono ?_); rintro en w3 ⟨v, rfl, ⟨A9, c9, rfl, hc9, hm9, hr9⟩, hbz⟩; have c00 := keep_cell hbz c00; have c01 := keep_cell hbz c01; have HB := Lib.hid (belowT HB.out hbz); clear hbz))
    obtain ⟨W4, hW4⟩ : ∃ W4, w3.alloc (.cells #[.bool s, .slice A9 12 c9, .int .i64 e, .bool false] 95) = W4 := ⟨_, rfl⟩
    have hb4 : Below w3.heap.size w3 W4 := by rw [← hW4]; exact (Below.refl _ _).alloc (Nat.le_refl _) _
    have hq4 : W4.heap[w3.heap.size]? = some (.cells #[.bool s, .slice A9 12 c9, .int .i64 e, .bool false] 95 (0, 0)) := by rw [← hW4]; exact heap_alloc_new _ _
    rw [hW4]
    have c00 := keep_cell hb4 c00; have c01 := keep_cell hb4 c01
    have a00 := cell_of_heap hq4 0; have a01 := cell_of_heap hq4 1; have a02 := cell_of_heap hq4 2; have a03 := cell_of_heap hq4 3
    simp at a00 a01 a02 a03
    have hB4 := belowT HB.out hb4
    have hB3z : W.heap.size ≤ w3.heap.size := HB.out.size
    have HB4 := Lib.hid hB4
    have HR9 := Lib.hid (hr9.below hb4)
    have HQ4 := Lib.hid hq4
    clear hb4 hq4 hB4 hr9
    go_upto_region 10 with fail
    rw [← hK]
    have HKE := Lib.hid hK
    obtain ⟨a9, rfl⟩ : ∃ a9, A9 = some a9 := by obtain ⟨a9, e9, -⟩ := HR9.out 0 (by rw [HL.out]; omega); exact ⟨a9, e9⟩
    have HKI := Lib.hid hKi; have HKL := Lib.hid hKl; have HKLT := Lib.hid hKlt
    clear hK hKi hKl hKlt
    go_wp2_with fail
    obtain ⟨nv, hnv⟩ : ∃ nv, nearV (ds.drop K) (vd (ds.take K)).toNat = nv := ⟨_, rfl⟩
    have hnv1 : nv ≤ 1 := by rw [← hnv]; exact near_le _ _
    have HNV := Lib.hid hnv
    clear hnv
    go_loopg [9, 52] K (fun g mv iv wr3 => ∃ (k : Nat) (m : Int), iv = .int .i64 (k : Int) ∧ k + g = K ∧ mv = .int .i64 m ∧ Hid (m = vd (ds.take k)) ∧ 0 ≤ m ∧ m ≤ 999999999999 ∧ wr3 = W4)
    case atStart => exact ⟨0, 0, rfl, Nat.zero_add _, rfl, by show _ = _; simp [vd], by omega, by omega, rfl⟩
    case round =>
      obtain ⟨k, m9, rfl, hk, rfl, HM, hm0, hm9', rfl⟩ := hrel
      have HK := Lib.hid hk
      by_cases hkK : k < K
      · have hkl : k < ds.length := by rw [HL.out]; omega
        obtain ⟨a8, e9, hcell⟩ := HR9.out k hkl
        cases e9
        have hin := HI.out.at_ (by decide) k
        rw [List.getD_eq_getElem?_getD] at hin
        have HT2 := Lib.hid (drop_take hkl)
        have hvl := vd_lt (HI.out.take (k + 1))
        have hvn := vd_nonneg (HI.out.take (k + 1))
        obtain ⟨x, hx⟩ : ∃ x, ds[k]?.getD 0 = x := ⟨_, rfl⟩
        rw [hx] at hcell hin HT2
        have hin9 : x < 10 := hin.2
        have hin0 := hin.1
        have HST : Hid (10 * m9 + x = vd (ds.take (k + 1))) := by show _ = _; rw [HT2.out, vd_snoc, HM.out]
        have hlim : vd (ds.take (k + 1)) < 1000000000000 := by
          rw [List.length_take, HL.out, show min (k + 1) 12 = k + 1 by omega] at hvl
          have hpw := pow_mono' (b := 10) (i := k + 1) (j := 12) (by decide) (by omega)
          simp only [Int.cast_ofNat_Int] at hpw
          have hpe : (10 : Int) ^ 12 = 1000000000000 := by decide
          omega
        have hb1 : 10 * m9 + x ≤ 999999999999 := by rw [HST.out]; omega
        have hb2 : 0 ≤ 10 * m9 + x := by rw [HST.out]; omega
        have hwr : IntKind.i64.wrap x = x := IntWalk.i64_in _ (by omega)
        clear hx hin hvl hvn hlim hk
        go_wp2_with fail
        go_roundg (gk - 1)
        case measure => have := HK.out; omega
        case rel => exact ⟨k + 1, 10 * m9 + x, by go_num, by have := HK.out; omega, rfl, HST.out, hb2, hb1, rfl⟩
      · obtain rfl : k = K := by omega
        obtain ⟨q, rfl⟩ : ∃ q : Nat, m9 = (q : Int) := ⟨m9.toNat, by omega⟩
        have HQ : Hid ((vd (ds.take k)).toNat = q) := by show _ = _; rw [← HM.out]; rfl
        have HQM : Hid (q + nv = rdiv m.natAbs C) := by have := HRDV.out; rw [HNV.out, HQ.out] at this; exact this
        clear hk hkK
        obtain ⟨V, hV⟩ : ∃ V, q + nv = V := ⟨_, rfl⟩
        have hqv : (q : Int) + (nv : Int) = (V : Int) := by omega
        have hV18 : V < 10 ^ 18 := by omega
        have hVe : rdiv m.natAbs C = V := by rw [← hV]; exact HQM.out.symm
        have HN1 : Hid (∀ w', Row .u8 w' (some a9) ds → Calls Tryz.prog 90 #[.slice (some (a9.add k)) (12 - k) (c9 - k), .int .i64 (q : Int)] w' fun e w2 => e = .returned (.int .i64 (nv : Int)) ∧ w' = w2) := fun w' hr => by
          have h1 := near_c (some (a9.add k)) (c9 - k) (ds.drop k) q w' (row_add k hr) (by rw [List.length_drop, HL.out]; omega) (by omega) (HI.out.drop k) (by omega)
          have h2 : nearV (ds.drop k) q = nv := by have := HNV.out; rw [HQ.out] at this; exact this
          rw [h2, List.length_drop, HL.out] at h1
          exact h1
        have HDG := Lib.hid (fun w' => digitsOf_c V w' hV18)
        obtain ⟨dv, hdv⟩ : ∃ dv, (dg 10 V).reverse = dv := ⟨_, rfl⟩
        have hdi := inR_dgR V
        have hdd := vd_dg V
        have hdl : dv.length ≤ 18 := by rw [← hdv, List.length_reverse]; exact (dg_length_le (by decide) V 18).2 hV18
        rw [hdv] at HDG hdi hdd
        have HRD := Lib.hid (fun A c w' (hr : Row .u8 w' A dv) hc hm => rounded_c s A c dv (-p) false w' hr hc hm hdi (by omega) (by omega) (by omega))
        rw [show withMore dv false = dv from rfl, show expMore (-p) false = -p from rfl, hdd, Int.toNat_natCast, ← hVe, HF.out] at HRD
        clear hV hVe hV18 hdv hdi hdd HQM
        go_wp2_with (first
          | (go_at_call 90; (with_reducible refine (HN1.out _ HR9.out).mono ?_); rintro en w5 ⟨rfl, rfl⟩)
          | (go_at_call 89; (with_reducible refine (HDG.out _).mono ?_); rintro en w5 ⟨v, rfl, ⟨A5, c5, rfl, hc5, hm5, hr5⟩, hf5, hbz⟩; have HR5 := Lib.hid hr5; have HC5 := Lib.hid hc5; have HM5 := Lib.hid hm5; have HB5 := Lib.hid (belowT HB4.out hbz); have q4 := heapB hbz HQ4.out; have q0 := cell_of_heap q4 0; have q1 := cell_of_heap q4 1; have q2 := cell_of_heap q4 2; have q3 := cell_of_heap q4 3; have y1 := free_of_heap q4 1; have y2 := free_of_heap q4 2; have HQ5 := Lib.hid q4; simp at q0 q1 q2 q3; clear hbz hr5 hf5 hc5 hm5 q4)
          | (go_at_call 88; (with_reducible refine (HRD.out A5 c5 _ (row_off HR5.out HQ5.out amt_cells (two_off _ _ _ _)) HC5.out HM5.out).mono ?_); rintro en w6 ⟨rfl, hbz⟩; have HB6 := Lib.hid (belowT ((HB5.out.setCell (p := ⟨w3.heap.size, 1, none⟩) (by exact hB3z) _).setCell (p := ⟨w3.heap.size, 2, none⟩) (by exact hB3z) _) hbz); obtain ⟨b0, b1, b2, b3⟩ := BOX.out _ HB6.out; clear hbz))
        obtain ⟨r0, r1, hbb⟩ := FIN.out _ a' b' HB6.out
        refine bodyPost_ret (v := .tuple #[.agg #[.int .i64 a', .int .i64 b'], .int .i64 c']) (by simp [results, Tryz.results19, go_sem, r0, r1]) rfl ?_
        exact ⟨rfl, hbb⟩
  · rw [show decide (RV m.natAbs e) = false from decide_eq_false h] at HV
    have hr : roundR m e p = .tuple #[.agg #[.int .i64 0, .int .i64 0], .int .i64 1] := by unfold roundR; rw [if_pos h]
    rw [hr]
    clear hr h
    go_enter Tryz.func19, Tryz.ntmps19
    go_wp2_with (go_at_call 33; (with_reducible refine (HV.out _).mono ?_); rintro en w2 ⟨rfl, hbz⟩; have c00 := keep_cell hbz c00; have c01 := keep_cell hbz c01; obtain ⟨b0, b1, b2, b3⟩ := BOX.out _ hbz; have HB := Lib.hid hbz; clear hbz)
    obtain ⟨r0, r1, hbb⟩ := FIN.out _ 0 0 HB.out
    refine bodyPost_ret (v := .tuple #[.agg #[.int .i64 0, .int .i64 0], .int .i64 1]) (by simp [results, Tryz.results19, go_sem, r0, r1]) rfl ?_
    exact ⟨rfl, hbb⟩
end Go.Proofs.YtekbfommnmikbaaGreatDoor
