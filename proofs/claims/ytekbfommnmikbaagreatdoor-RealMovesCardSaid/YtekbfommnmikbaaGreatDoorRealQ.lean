/- Package real: steps. -/
import Derived.Test.YtekbfommnmikbaaGreatDoorRealP
import Derived.BigRegion
namespace Go.Proofs.YtekbfommnmikbaaGreatDoor
set_option linter.unusedVariables false
set_option linter.unusedSimpArgs false
open Go.RowKit Go.Shelf Go.Proofs
attribute [local go_sem ↓] Go.wp_at_zero Go.wp_at_succ

theorem byP_bounds {n : Int} (h0 : 0 < n) (h1 : n ≤ 180000000000000) : 100000000000 ≤ (byP n).1 ∧ (byP n).1 < 1000000000000 ∧ -111 ≤ (byP n).2 ∧ (byP n).2 ≤ 88 := by
  unfold byP
  obtain ⟨k, hk⟩ := Int.eq_ofNat_of_zero_le (show 0 ≤ n - 1 by omega)
  rw [hk]
  have e1 := tmod_nat k 900000000000
  have e2 := tdiv_nat k 900000000000
  rw [show ((900000000000 : Nat) : Int) = 900000000000 from rfl] at e1 e2
  rw [e1, e2]
  have hb1 : k % 900000000000 < 900000000000 := Nat.mod_lt _ (by decide)
  have hb2 : k / 900000000000 < 200 := by omega
  generalize k % 900000000000 = r at *
  generalize k / 900000000000 = q at *
  omega
/-- The real with a place. -/
def byR (n : Int) : Int × Int := if n = 0 then (0, 0) else if n < 0 then (-(byP (-n)).1, (byP (-n)).2) else byP n

set_option maxRecDepth 100000 in
set_option maxHeartbeats 2000000 in
theorem placed_c (n : Int) (w : World) (h0 : -180000000000000 ≤ n) (h1 : n ≤ 180000000000000) :
    Calls Tryz.prog 130 #[.int .i64 n] w fun en w' => en = .returned (.agg #[.int .i64 (byR n).1, .int .i64 (byR n).2]) ∧ Below w.heap.size w w' := by
  by_cases n0 : n = 0
  · subst n0
    have hr : byR 0 = (0, 0) := rfl
    rw [hr]
    obtain ⟨W, hW, k0⟩ : ∃ W, w.alloc (.cells #[.int .i64 0, .int .i64 0] 23) = W ∧ W.heap[w.heap.size]? = some (.cells #[.int .i64 0, .int .i64 0] 23 (0, 0)) := ⟨_, rfl, heap_alloc_new _ _⟩
    have hbel : Below w.heap.size w W := by rw [← hW]; exact (Below.refl _ _).alloc (Nat.le_refl _) _
    have d0 := cell_of_heap k0 0; have d1 := cell_of_heap k0 1; have f0 := free_of_heap k0 0; have f1 := free_of_heap k0 1
    simp at d0 d1
    have HK0 := Lib.hid k0; have HBEL := Lib.hid hbel
    clear k0 hbel
    go_enter Tryz.func130, Tryz.ntmps130
    go_wp2_with fail
    have h1 := putB (putB HK0.out 0 (.int .i64 0)) 1 (.int .i64 0)
    have r0 := cell_of_heap h1 0; have r1 := cell_of_heap h1 1
    simp at r0 r1
    refine bodyPost_ret (v := .agg #[.int .i64 0, .int .i64 0]) (by simp [results, Tryz.results130, go_sem, r0, r1]) rfl ?_
    exact ⟨rfl, (HBEL.out.setCell (p := ⟨w.heap.size, 0, none⟩) (by simp) _).setCell (p := ⟨w.heap.size, 1, none⟩) (by simp) _⟩
  by_cases n1 : n < 0
  · have hr : byR n = (-(byP (-n)).1, (byP (-n)).2) := by unfold byR; rw [if_neg n0, if_pos n1]
    rw [hr]
    obtain ⟨b0, b1, b2, b3⟩ := byP_bounds (n := -n) (by omega) (by omega)
    have HPL := Lib.hid (fun w' => placed_pos (-n) w' (by omega) (by omega))
    obtain ⟨⟨m, e⟩, hm⟩ : ∃ p, byP (-n) = p := ⟨_, rfl⟩
    rw [hm] at HPL b0 b1 b2 b3 ⊢
    dsimp only at *
    obtain ⟨W, hW, k0⟩ : ∃ W, w.alloc (.cells #[.int .i64 0, .int .i64 0] 23) = W ∧ W.heap[w.heap.size]? = some (.cells #[.int .i64 0, .int .i64 0] 23 (0, 0)) := ⟨_, rfl, heap_alloc_new _ _⟩
    have hbel : Below w.heap.size w W := by rw [← hW]; exact (Below.refl _ _).alloc (Nat.le_refl _) _
    have HK0 := Lib.hid k0; have HBEL := Lib.hid hbel
    have m1 : -9223372036854775807 ≤ m := by omega
    have m2 : m ≤ 9223372036854775807 := by omega
    clear k0 hbel hm hr
    go_enter Tryz.func130, Tryz.ntmps130
    go_wp2_with (first
      | (go_at_call 130; refine (HPL.out _).mono ?_; rintro en w2 ⟨rfl, hbz⟩; have HB2 := Lib.hid hbz; clear hbz)
      | (go_at_call 113; refine (negated_c m e _ m1 m2).mono ?_; rintro en w3 ⟨rfl, hbz⟩; have q := heapB hbz (heapB HB2.out HK0.out); have d0 := cell_of_heap q 0; have d1 := cell_of_heap q 1; have f0 := free_of_heap q 0; have f1 := free_of_heap q 1; simp at d0 d1; have HQ := Lib.hid q; have HB3 := Lib.hid hbz; clear hbz q))
    have h1 := putB (putB HQ.out 0 (.int .i64 (-m))) 1 (.int .i64 e)
    have r0 := cell_of_heap h1 0; have r1 := cell_of_heap h1 1
    simp at r0 r1
    refine bodyPost_ret (v := .agg #[.int .i64 (-m), .int .i64 e]) (by simp [results, Tryz.results130, go_sem, r0, r1]) rfl ?_
    exact ⟨rfl, ((belowT (belowT HBEL.out HB2.out) HB3.out).setCell (p := ⟨w.heap.size, 0, none⟩) (by simp) _).setCell (p := ⟨w.heap.size, 1, none⟩) (by simp) _⟩
  · have hr : byR n = byP n := by unfold byR; rw [if_neg n0, if_neg n1]
    rw [hr]
    exact placed_pos n w (by omega) h1

theorem plR_bounds {m e : Int} (h : RV m.natAbs e) : -180000000000000 ≤ plR m e ∧ plR m e ≤ 180000000000000 := by
  unfold plR plP
  unfold RV at h
  split
  · omega
  · split <;> omega

set_option maxRecDepth 100000 in
set_option maxHeartbeats 4000000 in
theorem steps_c (xm xe ym ye : Int) (w : World) (hx0 : -9223372036854775808 ≤ xm) (hx1 : xm ≤ 9223372036854775807) (hy0 : -9223372036854775808 ≤ ym) (hy1 : ym ≤ 9223372036854775807) :
    Calls Tryz.prog 57 #[.agg #[.int .i64 xm, .int .i64 xe], .agg #[.int .i64 ym, .int .i64 ye]] w fun en w' => en = .returned (if RV xm.natAbs xe ∧ RV ym.natAbs ye then .tuple #[.int .i64 (plR ym ye - plR xm xe), .int .i64 0] else .tuple #[.int .i64 0, .int .i64 1]) ∧ Below w.heap.size w w' := by
  obtain ⟨W, hW, k0, k1, hbel, hsz⟩ := bx2h w #[.int .i64 xm, .int .i64 xe] #[.int .i64 ym, .int .i64 ye] 23 23
  have HK0 := Lib.hid k0; have HK1 := Lib.hid k1; have HBEL := Lib.hid hbel; have HSZ := Lib.hid hsz
  have c00 := cell_of_heap k0 0; have c01 := cell_of_heap k0 1; have c10 := cell_of_heap k1 0; have c11 := cell_of_heap k1 1
  simp at c00 c01 c10 c11
  have HV1 := Lib.hid (fun w' => validR_c xm xe w' hx0 hx1)
  have HV2 := Lib.hid (fun w' => validR_c ym ye w' hy0 hy1)
  clear k0 k1 hbel hsz
  by_cases hx : RV xm.natAbs xe
  · have ed : decide (RV xm.natAbs xe) = true := decide_eq_true hx
    rw [ed] at HV1
    by_cases hy : RV ym.natAbs ye
    · have ed2 : decide (RV ym.natAbs ye) = true := decide_eq_true hy
      rw [ed2] at HV2
      rw [if_pos ⟨hx, hy⟩]
      have HP1 := Lib.hid (fun w' => place_c xm xe w' hx)
      have HP2 := Lib.hid (fun w' => place_c ym ye w' hy)
      obtain ⟨b1, b2⟩ := plR_bounds hx
      obtain ⟨b3, b4⟩ := plR_bounds hy
      obtain ⟨p, hp⟩ : ∃ p, plR xm xe = p := ⟨_, rfl⟩
      obtain ⟨q, hq⟩ : ∃ q, plR ym ye = q := ⟨_, rfl⟩
      rw [hp] at HP1 b1 b2 ⊢
      rw [hq] at HP2 b3 b4 ⊢
      clear hp hq hx hy ed ed2
      go_enter Tryz.func57, Tryz.ntmps57
      go_upto_region 3 with (first
        | (go_at_call 33; (with_reducible refine (HV1.out _).mono ?_); rintro en w2 ⟨rfl, hbz⟩; have c10 := keep_cell hbz c10; have c11 := keep_cell hbz c11; have c00 := keep_cell hbz c00; have c01 := keep_cell hbz c01; have HB2 := Lib.hid hbz; clear hbz)
        | (go_at_call 33; (with_reducible refine (HV2.out _).mono ?_); rintro en w3 ⟨rfl, hbz⟩; have c10 := keep_cell hbz c10; have c11 := keep_cell hbz c11; have c00 := keep_cell hbz c00; have c01 := keep_cell hbz c01; have HB3 := Lib.hid hbz; clear hbz))
      have HSS : Hid (∀ w', Bel w3.heap.size w3 w' → w'.cell? ⟨w.heap.size, 0, none⟩ = some (.int .i64 xm) ∧ w'.cell? ⟨w.heap.size, 1, none⟩ = some (.int .i64 xe) ∧ w'.cell? ⟨w.heap.size + 1, 0, none⟩ = some (.int .i64 ym) ∧ w'.cell? ⟨w.heap.size + 1, 1, none⟩ = some (.int .i64 ye) ∧ Bel w3.heap.size w3 w') := fun w' h => ⟨keep_cell h.to_ c00, keep_cell h.to_ c01, keep_cell h.to_ c10, keep_cell h.to_ c11, h⟩
      have hbl := Bel.refl w3.heap.size w3 (Nat.le_refl _)
      go_region_held3 (fun w' => w'.cell? ⟨w.heap.size, 0, none⟩ = some (.int .i64 xm) ∧ w'.cell? ⟨w.heap.size, 1, none⟩ = some (.int .i64 xe) ∧ w'.cell? ⟨w.heap.size + 1, 0, none⟩ = some (.int .i64 ym) ∧ w'.cell? ⟨w.heap.size + 1, 1, none⟩ = some (.int .i64 ye) ∧ Bel w3.heap.size w3 w')
        ((go_split_ands; (with_reducible refine HSS.out _ ?_); (repeat (first | (with_reducible assumption) | (with_reducible refine Bel.call ?_ hbz) | (with_reducible refine Bel.alloc ?_ _) | (with_reducible refine Bel.drew ?_) | (with_reducible refine Bel.set ?_ _ (by first | exact Nat.le_refl _ | (simp; done) | (simp; omega)))))))
        (first
          | (go_at_call 129; (with_reducible refine (HP1.out _).mono ?_); rintro en w' ⟨rfl, hbz⟩)
          | (go_at_call 129; (with_reducible refine (HP2.out _).mono ?_); rintro en w' ⟨rfl, hbz⟩))
      all_goals
        go_split_ands
        go_wp2_with fail
        go_ret2
        refine ⟨?_, belowT (belowT (belowT HBEL.out HB2.out) HB3.out) (show Below w3.heap.size w3 _ from Bel.to_ (by assumption))⟩
        first | rfl | (show Ending.returned (Value.tuple #[.int .i64 (IntKind.i64.wrap (q - p)), .int .i64 0]) = _; rw [IntWalk.i64_in (q - p) (by omega)])
    · have ed2 : decide (RV ym.natAbs ye) = false := decide_eq_false hy
      rw [ed2] at HV2
      rw [if_neg (fun h => hy h.2)]
      clear ed ed2 hx hy
      go_enter Tryz.func57, Tryz.ntmps57
      go_wp2_with (first
        | (go_at_call 33; (with_reducible refine (HV1.out _).mono ?_); rintro en w2 ⟨rfl, hbz⟩; have c10 := keep_cell hbz c10; have c11 := keep_cell hbz c11; have HB2 := Lib.hid hbz; clear hbz)
        | (go_at_call 33; (with_reducible refine (HV2.out _).mono ?_); rintro en w3 ⟨rfl, hbz⟩; have HB3 := Lib.hid hbz; clear hbz))
      go_ret2
      exact ⟨rfl, belowT (belowT HBEL.out HB2.out) HB3.out⟩
  · have ed : decide (RV xm.natAbs xe) = false := decide_eq_false hx
    rw [ed] at HV1
    rw [if_neg (fun h => hx h.1)]
    clear ed hx
    go_enter Tryz.func57, Tryz.ntmps57
    go_wp2_with (go_at_call 33; (with_reducible refine (HV1.out _).mono ?_); rintro en w2 ⟨rfl, hbz⟩; have HB2 := Lib.hid hbz; clear hbz)
    go_ret2
    exact ⟨rfl, belowT HBEL.out HB2.out⟩
end Go.Proofs.YtekbfommnmikbaaGreatDoor
