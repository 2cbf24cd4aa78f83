/- Texts of this claim, merged: RealQ, RealR, RealS, RealT, RealU, RealW, RealX, RealZ, R3, Print, Text. -/
import Derived.Test.YtekbfommnmikbaaGreatDoorE3
import Derived.BigRegion
import Derived.Shelf.Abstract
import Derived.Recover
import Derived.Defers
import Derived.RegionDies
import Derived.BigQuiet
import Derived.Lib.ItoaLen
import Derived.Deep.QuietTactic
/- Package real: steps. -/
namespace Go.Proofs.YtekbfommnmikbaaGreatDoor
set_option linter.unusedVariables false
set_option linter.unusedSimpArgs false
open Go.RowKit Go.Shelf Go.Proofs
attribute [local go_sem ↓] Go.wp_at_zero Go.wp_at_succ

theorem plR_bounds {m e : Int} (h : RV m.natAbs e) : -180000000000000 ≤ plR m e ∧ plR m e ≤ 180000000000000 := by
  unfold plR plP
  unfold RV at h
  split
  · omega
  · split <;> omega

set_option maxRecDepth 100000 in
set_option maxHeartbeats 4000000 in
theorem steps_c (xm xe ym ye : Int) (w : World) (hx0 : -9223372036854775808 ≤ xm) (hx1 : xm ≤ 9223372036854775807) (hy0 : -9223372036854775808 ≤ ym) (hy1 : ym ≤ 9223372036854775807) :
    Calls Tryz.prog 57 #[.agg #[.int .i64 xm, .int .i64 xe], .agg #[.int .i64 ym, .int .i64 ye]] w fun en w' => en = .returned (if RV xm.natAbs xe ∧ RV ym.natAbs ye then .tuple #[.int .i64 (plR ym ye - plR xm xe), .int .i64 0] else .tuple #[.int .i64 0, .int .i64 1]) ∧ Below w.heap.size w w' := by
  obtain ⟨W, hW, k0, k1, hbel, hsz⟩ := bx2h w #[.int .i64 xm, .int .i64 xe] #[.int .i64 ym, .int .i64 ye] 23 23
  have HK0 := Lib.hid k0; have HK1 := Lib.hid k1; have HBEL := Lib.hid hbel; have HSZ := Lib.hid hsz
  have c00 := cell_of_heap k0 0; have c01 := cell_of_heap k0 1; have c10 := cell_of_heap k1 0; have c11 := cell_of_heap k1 1
  simp at c00 c01 c10 c11
  have HV1 := Lib.hid (fun w' => validR_c xm xe w' hx0 hx1)
  have HV2 := Lib.hid (fun w' => validR_c ym ye w' hy0 hy1)
  clear k0 k1 hbel hsz
  by_cases hx : RV xm.natAbs xe
  · have ed : decide (RV xm.natAbs xe) = true := decide_eq_true hx
    rw [ed] at HV1
    by_cases hy : RV ym.natAbs ye
    · have ed2 : decide (RV ym.natAbs ye) = true := decide_eq_true hy
      rw [ed2] at HV2
      rw [if_pos ⟨hx, hy⟩]
      have HP1 := Lib.hid (fun w' => place_c xm xe w' hx)
      have HP2 := Lib.hid (fun w' => place_c ym ye w' hy)
      obtain ⟨b1, b2⟩ := plR_bounds hx
      obtain ⟨b3, b4⟩ := plR_bounds hy
      obtain ⟨p, hp⟩ : ∃ p, plR xm xe = p := ⟨_, rfl⟩
      obtain ⟨q, hq⟩ : ∃ q, plR ym ye = q := ⟨_, rfl⟩
      rw [hp] at HP1 b1 b2 ⊢
      rw [hq] at HP2 b3 b4 ⊢
      clear hp hq hx hy ed ed2
      go_enter Tryz.func57, Tryz.ntmps57
      go_upto_region 3 with (first
        | (go_at_call 33; (with_reducible refine (HV1.out _).mono ?_); rintro en w2 ⟨rfl, hbz⟩; have c10 := keep_cell hbz c10; have c11 := keep_cell hbz c11; have c00 := keep_cell hbz c00; have c01 := keep_cell hbz c01; have HB2 := Lib.hid hbz; clear hbz)
        | (go_at_call 33; (with_reducible refine (HV2.out _).mono ?_); rintro en w3 ⟨rfl, hbz⟩; have c10 := keep_cell hbz c10; have c11 := keep_cell hbz c11; have c00 := keep_cell hbz c00; have c01 := keep_cell hbz c01; have HB3 := Lib.hid hbz; clear hbz))
      have HSS : Hid (∀ w', Bel w3.heap.size w3 w' → w'.cell? ⟨w.heap.size, 0, none⟩ = some (.int .i64 xm) ∧ w'.cell? ⟨w.heap.size, 1, none⟩ = some (.int .i64 xe) ∧ w'.cell? ⟨w.heap.size + 1, 0, none⟩ = some (.int .i64 ym) ∧ w'.cell? ⟨w.heap.size + 1, 1, none⟩ = some (.int .i64 ye) ∧ Bel w3.heap.size w3 w') := fun w' h => ⟨keep_cell h.to_ c00, keep_cell h.to_ c01, keep_cell h.to_ c10, keep_cell h.to_ c11, h⟩
      have hbl := Bel.refl w3.heap.size w3 (Nat.le_refl _)
      go_region_held3 (fun w' => w'.cell? ⟨w.heap.size, 0, none⟩ = some (.int .i64 xm) ∧ w'.cell? ⟨w.heap.size, 1, none⟩ = some (.int .i64 xe) ∧ w'.cell? ⟨w.heap.size + 1, 0, none⟩ = some (.int .i64 ym) ∧ w'.cell? ⟨w.heap.size + 1, 1, none⟩ = some (.int .i64 ye) ∧ Bel w3.heap.size w3 w')
        ((go_split_ands; (with_reducible refine HSS.out _ ?_); (repeat (first | (with_reducible assumption) | (with_reducible refine Bel.call ?_ hbz) | (with_reducible refine Bel.alloc ?_ _) | (with_reducible refine Bel.drew ?_) | (with_reducible refine Bel.set ?_ _ (by first | exact Nat.le_refl _ | (simp; done) | (simp; omega)))))))
        (first
          | (go_at_call 129; (with_reducible refine (HP1.out _).mono ?_); rintro en w' ⟨rfl, hbz⟩)
          | (go_at_call 129; (with_reducible refine (HP2.out _).mono ?_); rintro en w' ⟨rfl, hbz⟩))
      all_goals
        go_split_ands
        go_wp2_with fail
        go_ret2
        refine ⟨?_, belowT (belowT (belowT HBEL.out HB2.out) HB3.out) (show Below w3.heap.size w3 _ from Bel.to_ (by assumption))⟩
        first | rfl | (show Ending.returned (Value.tuple #[.int .i64 (IntKind.i64.wrap (q - p)), .int .i64 0]) = _; rw [IntWalk.i64_in (q - p) (by omega)])
    · have ed2 : decide (RV ym.natAbs ye) = false := decide_eq_false hy
      rw [ed2] at HV2
      rw [if_neg (fun h => hy h.2)]
      clear ed ed2 hx hy
      go_enter Tryz.func57, Tryz.ntmps57
      go_wp2_with (first
        | (go_at_call 33; (with_reducible refine (HV1.out _).mono ?_); rintro en w2 ⟨rfl, hbz⟩; have c10 := keep_cell hbz c10; have c11 := keep_cell hbz c11; have HB2 := Lib.hid hbz; clear hbz)
        | (go_at_call 33; (with_reducible refine (HV2.out _).mono ?_); rintro en w3 ⟨rfl, hbz⟩; have HB3 := Lib.hid hbz; clear hbz))
      go_ret2
      exact ⟨rfl, belowT (belowT HBEL.out HB2.out) HB3.out⟩
  · have ed : decide (RV xm.natAbs xe) = false := decide_eq_false hx
    rw [ed] at HV1
    rw [if_neg (fun h => hx h.1)]
    clear ed hx
    go_enter Tryz.func57, Tryz.ntmps57
    go_wp2_with (go_at_call 33; (with_reducible refine (HV1.out _).mono ?_); rintro en w2 ⟨rfl, hbz⟩; have HB2 := Lib.hid hbz; clear hbz)
    go_ret2
    exact ⟨rfl, belowT HBEL.out HB2.out⟩
end Go.Proofs.YtekbfommnmikbaaGreatDoor
/- Package real: Cmp, Neg. -/
namespace Go.Proofs.YtekbfommnmikbaaGreatDoor
set_option linter.unusedVariables false
set_option linter.unusedSimpArgs false
open Go.RowKit Go.Shelf Go.Proofs
attribute [local go_sem ↓] Go.wp_at_zero Go.wp_at_succ

set_option maxRecDepth 100000 in
set_option maxHeartbeats 4000000 in
theorem cmpR_c (xm xe ym ye : Int) (w : World) (hx0 : -9223372036854775808 ≤ xm) (hx1 : xm ≤ 9223372036854775807) (hy0 : -9223372036854775808 ≤ ym) (hy1 : ym ≤ 9223372036854775807) :
    Calls Tryz.prog 42 #[.agg #[.int .i64 xm, .int .i64 xe], .agg #[.int .i64 ym, .int .i64 ye]] w fun en w' => en = .returned (if RV ym.natAbs ye ∧ RV xm.natAbs xe then .tuple #[.int .i64 (max (-1) (min (plR xm xe - plR ym ye) 1)), .int .i64 0] else .tuple #[.int .i64 0, .int .i64 1]) ∧ Below w.heap.size w w' := by
  obtain ⟨W, hW, k0, k1, hbel, hsz⟩ := bx2h w #[.int .i64 xm, .int .i64 xe] #[.int .i64 ym, .int .i64 ye] 23 23
  have HBEL := Lib.hid hbel
  have c00 := cell_of_heap k0 0; have c01 := cell_of_heap k0 1; have c10 := cell_of_heap k1 0; have c11 := cell_of_heap k1 1
  simp at c00 c01 c10 c11
  have HST := Lib.hid (fun w' => steps_c ym ye xm xe w' hy0 hy1 hx0 hx1)
  clear k0 k1 hbel hsz
  by_cases h : RV ym.natAbs ye ∧ RV xm.natAbs xe
  · rw [if_pos h] at HST ⊢
    obtain ⟨n, hn⟩ : ∃ n, plR xm xe - plR ym ye = n := ⟨_, rfl⟩
    rw [hn] at HST ⊢
    clear hn h
    go_enter Tryz.func42, Tryz.ntmps42
    go_wp2_with (go_at_call 57; refine (HST.out _).mono ?_; rintro en w2 ⟨rfl, hbz⟩; have HB2 := Lib.hid hbz; clear hbz)
    go_ret2
    exact ⟨rfl, belowT HBEL.out HB2.out⟩
  · rw [if_neg h] at HST ⊢
    clear h
    go_enter Tryz.func42, Tryz.ntmps42
    go_wp2_with (go_at_call 57; refine (HST.out _).mono ?_; rintro en w2 ⟨rfl, hbz⟩; have HB2 := Lib.hid hbz; clear hbz)
    go_ret2
    exact ⟨rfl, belowT HBEL.out HB2.out⟩

end Go.Proofs.YtekbfommnmikbaaGreatDoor
/- Package real: Root. -/
namespace Go.Proofs.YtekbfommnmikbaaGreatDoor
set_option linter.unusedVariables false
set_option linter.unusedSimpArgs false
open Go.RowKit Go.Shelf Go.Proofs
attribute [local go_sem ↓] Go.wp_at_zero Go.wp_at_succ

theorem tdiv2_bounds {E : Int} (h1 : -112 ≤ E) (h2 : E ≤ 88) : -60 ≤ E.tdiv 2 ∧ E.tdiv 2 ≤ 60 := by
  have h3 := Int.mul_tdiv_add_tmod E 2
  have h4 : -2 < E.tmod 2 ∧ E.tmod 2 < 2 := by
    rcases Int.le_total 0 E with h | h
    · obtain ⟨k, rfl⟩ := Int.eq_ofNat_of_zero_le h
      rw [show ((k : Int).tmod 2) = ((k % 2 : Nat) : Int) from rfl]; omega
    · obtain ⟨k, hk⟩ := Int.eq_ofNat_of_zero_le (show 0 ≤ -E by omega)
      obtain rfl : E = -(k : Int) := by omega
      rw [Int.neg_tmod, show ((k : Int).tmod 2) = ((k % 2 : Nat) : Int) from rfl]; omega
  omega
/-- What the root is rounded to. -/
def rootX (M : Nat) (xe : Int) : Int := (rootE xe).tdiv 2 + (((rootL M xe).length / 2 : Nat) : Int) - 14
def rootV (M : Nat) (xe : Int) : Option (Nat × Int) := rnd (vd (withMore (firsts (ritem (rootL M xe)) 14) (lastMore (ritem (rootL M xe)) 14))).toNat (expMore (rootX M xe) (lastMore (ritem (rootL M xe)) 14))
theorem rootX_bounds {M : Nat} {xe : Int} (h : RV M xe) : -100 ≤ rootX M xe ∧ rootX M xe ≤ 100 := by
  have hx := (RV_abs (m := (M : Int)) h).2
  have hl : (rootL M xe).length ≤ 14 := by
    have h1 := dgR_len (m := (M : Int)) h
    have h2 : (M : Int).natAbs = M := rfl
    rw [h2] at h1
    unfold rootL
    split
    · omega
    · rw [List.length_append, List.length_append]; simp only [List.length_cons, List.length_nil]; omega
  have hE : -112 ≤ rootE xe ∧ rootE xe ≤ 88 := by unfold rootE; split <;> omega
  have := tdiv2_bounds hE.1 hE.2
  unfold rootX
  omega
theorem rootRounded (M : Nat) (xe : Int) (w : World) {v : Value} (h : RV M xe) (ha : Amt w v false (firsts (ritem (rootL M xe)) 14) (rootX M xe) (lastMore (ritem (rootL M xe)) 14)) :
    Calls Tryz.prog 88 #[v] w fun en w' => en = .returned (resR false (rootV M xe)) ∧ Below w.heap.size w w' := by
  have hb := rootX_bounds h
  exact rounded_a ha (firsts_inR (ritem_dig _) 14) (by rw [firsts_length]; omega) (by omega) (by omega)
end Go.Proofs.YtekbfommnmikbaaGreatDoor
/- Package real: Root. -/
namespace Go.Proofs.YtekbfommnmikbaaGreatDoor
set_option linter.unusedVariables false
set_option linter.unusedSimpArgs false
open Go.RowKit Go.Shelf Go.Proofs
attribute [local go_sem ↓] Go.wp_at_zero Go.wp_at_succ

/-- What Root returns. -/
def rootR (m e : Int) : Value :=
  if ¬ RV m.natAbs e then .tuple #[.agg #[.int .i64 0, .int .i64 0], .int .i64 1]
  else if m < 0 then .tuple #[.agg #[.int .i64 0, .int .i64 0], .int .i64 5]
  else if m = 0 then .tuple #[.agg #[.int .i64 m, .int .i64 e], .int .i64 0]
  else resR false (rootV m.natAbs e)

theorem res_form (s : Bool) (o : Option (Nat × Int)) : ∃ a b c, resR s o = .tuple #[.agg #[.int .i64 a, .int .i64 b], .int .i64 c] := by
  rcases o with _ | ⟨m, x⟩
  · exact ⟨0, 0, 3, rfl⟩
  · exact ⟨sgm s m, x, 0, rfl⟩

set_option maxRecDepth 100000 in
set_option maxHeartbeats 4000000 in
theorem rootR_c (m e : Int) (w : World) (h0 : -9223372036854775808 ≤ m) (h1 : m ≤ 9223372036854775807) :
    Calls Tryz.prog 48 #[.agg #[.int .i64 m, .int .i64 e]] w fun en w' => en = .returned (rootR m e) ∧ Below w.heap.size w w' := by
  obtain ⟨W, hW, k0, k1, hbel, hsz⟩ := bx2h w #[.int .i64 m, .int .i64 e] #[.int .i64 0, .int .i64 0] 23 23
  have HK1 := Lib.hid k1; have HBEL := Lib.hid hbel
  have c00 := cell_of_heap k0 0; have c01 := cell_of_heap k0 1
  simp at c00 c01
  have HV := Lib.hid (fun w' => validR_c m e w' h0 h1)
  clear k0 k1 hbel hsz
  have fin0 : ∀ (w2 : World) (a b : Int), Below W.heap.size W w2 → (((w2.setCell ⟨w.heap.size + 1, 0, none⟩ (.int .i64 a)).setCell ⟨w.heap.size + 1, 1, none⟩ (.int .i64 b)).cell? ⟨w.heap.size + 1, 0, none⟩ = some (.int .i64 a) ∧ ((w2.setCell ⟨w.heap.size + 1, 0, none⟩ (.int .i64 a)).setCell ⟨w.heap.size + 1, 1, none⟩ (.int .i64 b)).cell? ⟨w.heap.size + 1, 1, none⟩ = some (.int .i64 b) ∧ Below w.heap.size w ((w2.setCell ⟨w.heap.size + 1, 0, none⟩ (.int .i64 a)).setCell ⟨w.heap.size + 1, 1, none⟩ (.int .i64 b))) := fun w2 a b hb => by
    have h9 := putB (putB (heapB hb HK1.out) 0 (.int .i64 a)) 1 (.int .i64 b)
    have r0 := cell_of_heap h9 0; have r1 := cell_of_heap h9 1
    simp at r0 r1
    exact ⟨r0, r1, ((belowT HBEL.out hb).setCell (p := ⟨w.heap.size + 1, 0, none⟩) (by simp) _).setCell (p := ⟨w.heap.size + 1, 1, none⟩) (by simp) _⟩
  have FIN := Lib.hid fin0
  clear fin0
  by_cases h : RV m.natAbs e
  · have ed : decide (RV m.natAbs e) = true := decide_eq_true h
    rw [ed] at HV
    have hnn : ¬ ¬ RV m.natAbs e := fun x => x h
    by_cases n0 : m < 0
    · have hr : rootR m e = .tuple #[.agg #[.int .i64 0, .int .i64 0], .int .i64 5] := by unfold rootR; rw [if_neg hnn, if_pos n0]
      rw [hr]
      clear hr hnn ed h
      go_enter Tryz.func48, Tryz.ntmps48
      go_wp2_with (go_at_call 33; refine (HV.out _).mono ?_; rintro en w2 ⟨rfl, hbz⟩; have q := heapB hbz HK1.out; have d0 := cell_of_heap q 0; have d1 := cell_of_heap q 1; have f0 := free_of_heap q 0; have f1 := free_of_heap q 1; have c00 := keep_cell hbz c00; have c01 := keep_cell hbz c01; simp at d0 d1; have HB2 := Lib.hid hbz; clear hbz q)
      obtain ⟨r0, r1, hbb⟩ := FIN.out w2 0 0 HB2.out
      refine bodyPost_ret (v := .tuple #[.agg #[.int .i64 0, .int .i64 0], .int .i64 5]) (by simp [results, Tryz.results48, go_sem, r0, r1]) rfl ?_
      exact ⟨rfl, hbb⟩
    by_cases n1 : m = 0
    · have n2 : e = 0 := by unfold RV at h; omega
      subst n1
      subst n2
      have hr : rootR 0 0 = .tuple #[.agg #[.int .i64 0, .int .i64 0], .int .i64 0] := by unfold rootR; rw [if_neg hnn, if_neg n0, if_pos rfl]
      rw [hr]
      clear hr hnn ed h n0
      go_enter Tryz.func48, Tryz.ntmps48
      go_wp2_with (go_at_call 33; refine (HV.out _).mono ?_; rintro en w2 ⟨rfl, hbz⟩; have q := heapB hbz HK1.out; have d0 := cell_of_heap q 0; have d1 := cell_of_heap q 1; have f0 := free_of_heap q 0; have f1 := free_of_heap q 1; have c00 := keep_cell hbz c00; have c01 := keep_cell hbz c01; simp at d0 d1; have HB2 := Lib.hid hbz; clear hbz q)
      obtain ⟨r0, r1, hbb⟩ := FIN.out w2 0 0 HB2.out
      refine bodyPost_ret (v := .tuple #[.agg #[.int .i64 0, .int .i64 0], .int .i64 0]) (by simp [results, Tryz.results48, go_sem, r0, r1]) rfl ?_
      exact ⟨rfl, hbb⟩
    · have hr : rootR m e = resR false (rootV m.natAbs e) := by unfold rootR; rw [if_neg hnn, if_neg n0, if_neg n1]
      rw [hr]
      obtain ⟨M, hM⟩ : ∃ M : Nat, m = (M : Int) := ⟨m.toNat, by omega⟩
      have hMa : m.natAbs = M := by omega
      rw [hMa] at h ⊢
      have HRT := Lib.hid (fun w' => root_c M e w' h (by omega))
      have HRR := Lib.hid (fun (w' : World) (v : Value) (ha : Amt w' v false (firsts (ritem (rootL M e)) 14) (rootX M e) (lastMore (ritem (rootL M e)) 14)) => rootRounded M e w' h ha)
      obtain ⟨a, b, c, hf⟩ := res_form false (rootV M e)
      rw [hf] at HRR ⊢
      rw [← hM] at HRT
      have m1 : 0 < m := by omega
      have HMM := Lib.hid hM
      clear hr hnn ed h hMa hf hM
      go_enter Tryz.func48, Tryz.ntmps48
      go_wp2_with (first
        | (go_at_call 33; refine (HV.out _).mono ?_; rintro en w2 ⟨rfl, hbz⟩; have q := heapB hbz HK1.out; have d0 := cell_of_heap q 0; have d1 := cell_of_heap q 1; have f0 := free_of_heap q 0; have f1 := free_of_heap q 1; have c00 := keep_cell hbz c00; have c01 := keep_cell hbz c01; simp at d0 d1; have HB2 := Lib.hid hbz; clear hbz q)
        | (go_at_call 122; refine (HRT.out _).mono ?_; rintro en w3 ⟨v, rfl, ha, hbz⟩; have HA := Lib.hid ha; have HB3 := Lib.hid hbz; clear hbz ha)
        | (go_at_call 88; refine (HRR.out _ _ HA.out).mono ?_; rintro en w4 ⟨rfl, hbz⟩; have q := heapB hbz (heapB HB3.out (heapB HB2.out HK1.out)); have d0 := cell_of_heap q 0; have d1 := cell_of_heap q 1; have f0 := free_of_heap q 0; have f1 := free_of_heap q 1; simp at d0 d1; have HB4 := Lib.hid hbz; clear hbz q))
      obtain ⟨r0, r1, hbb⟩ := FIN.out w4 a b (belowT (belowT HB2.out HB3.out) HB4.out)
      refine bodyPost_ret (v := .tuple #[.agg #[.int .i64 a, .int .i64 b], .int .i64 c]) (by simp [results, Tryz.results48, go_sem, r0, r1]) rfl ?_
      exact ⟨rfl, hbb⟩
  · have ed : decide (RV m.natAbs e) = false := decide_eq_false h
    rw [ed] at HV
    have hr : rootR m e = .tuple #[.agg #[.int .i64 0, .int .i64 0], .int .i64 1] := by unfold rootR; rw [if_pos h]
    rw [hr]
    clear ed h hr
    go_enter Tryz.func48, Tryz.ntmps48
    go_wp2_with (go_at_call 33; refine (HV.out _).mono ?_; rintro en w2 ⟨rfl, hbz⟩; have q := heapB hbz HK1.out; have d0 := cell_of_heap q 0; have d1 := cell_of_heap q 1; have f0 := free_of_heap q 0; have f1 := free_of_heap q 1; have c00 := keep_cell hbz c00; have c01 := keep_cell hbz c01; simp at d0 d1; have HB2 := Lib.hid hbz; clear hbz q)
    obtain ⟨r0, r1, hbb⟩ := FIN.out w2 0 0 HB2.out
    refine bodyPost_ret (v := .tuple #[.agg #[.int .i64 0, .int .i64 0], .int .i64 1]) (by simp [results, Tryz.results48, go_sem, r0, r1]) rfl ?_
    exact ⟨rfl, hbb⟩
end Go.Proofs.YtekbfommnmikbaaGreatDoor
/- Package real: an operation (its arguments are looked at, then the exact result is rounded). -/
namespace Go.Proofs.YtekbfommnmikbaaGreatDoor
set_option linter.unusedVariables false
set_option linter.unusedSimpArgs false
open Go.RowKit Go.Shelf Go.Proofs
attribute [local go_sem ↓] Go.wp_at_zero Go.wp_at_succ

/-- v is an amount that is rounded to what R says. -/
def AmtR (w : World) (v R : Value) : Prop := ∃ s ds e more, Amt w v s ds e more ∧ InR 10 ds ∧ ds.length ≤ 1000000 ∧ -1000000000 ≤ e ∧ e ≤ 1000000000 ∧ resR s (rnd (vd (withMore ds more)).toNat (expMore e more)) = R
theorem AmtR.below {w w' : World} {v R : Value} (h : AmtR w v R) (hb : Below w.heap.size w w') : AmtR w' v R := by
  obtain ⟨s, ds, e, more, h1, h2⟩ := h
  exact ⟨s, ds, e, more, h1.below hb, h2⟩
theorem rounded_R {w : World} {v R : Value} (h : AmtR w v R) : Calls Tryz.prog 88 #[v] w fun en w' => en = .returned R ∧ Below w.heap.size w w' := by
  obtain ⟨s, ds, e, more, h1, h2, h3, h4, h5, rfl⟩ := h
  exact rounded_a h1 h2 h3 h4 h5
theorem AmtR.drew {w : World} {v R : Value} (h : AmtR w v R) : AmtR w.drew v R := h.below (Below.refl _ _).drew

theorem bx4g (w : World) (a0 a1 a2 a3 : Array Value) (t0 t1 t2 t3 : TypeId) : ∃ W, (((w.alloc (.cells a0 t0)).alloc (.cells a1 t1)).alloc (.cells a2 t2)).alloc (.cells a3 t3) = W ∧ W.heap[w.heap.size]? = some (.cells a0 t0 (0, 0)) ∧ W.heap[w.heap.size + 1]? = some (.cells a1 t1 (0, 0)) ∧ W.heap[w.heap.size + 2]? = some (.cells a2 t2 (0, 0)) ∧ W.heap[w.heap.size + 3]? = some (.cells a3 t3 (0, 0)) ∧ Below w.heap.size w W :=
  ⟨_, rfl, heap_old _ (heap_old _ (heap_old _ (heap_alloc_new _ _))), heap_old _ (heap_old _ (heap_new' _ _ _ (by simp))), heap_old _ (heap_new' _ _ _ (by simp)), heap_new' _ _ _ (by simp), ((((Below.refl _ _).alloc (Nat.le_refl _) _).alloc (by simp) _).alloc (by simp; omega) _).alloc (by simp; omega) _⟩

/-- What an operation returns. -/
def doneR (xm xe ym ye r : Int) (R : Value) : Value := if RV xm.natAbs xe ∧ RV ym.natAbs ye then (if r = 0 then R else .tuple #[.agg #[.int .i64 0, .int .i64 0], .int .i64 r]) else .tuple #[.agg #[.int .i64 0, .int .i64 0], .int .i64 1]

/-- Two cells of the result's box are stored. -/
theorem fin2 {w W : World} {B : Nat} {t : TypeId} (hk : W.heap[B]? = some (.cells #[.int .i64 0, .int .i64 0] t (0, 0))) (hB : w.heap.size ≤ B) (hbel : Below w.heap.size w W) : Hid (∀ (w2 : World) (a b : Int), Below W.heap.size W w2 → (((w2.setCell ⟨B, 0, none⟩ (.int .i64 a)).setCell ⟨B, 1, none⟩ (.int .i64 b)).cell? ⟨B, 0, none⟩ = some (.int .i64 a) ∧ ((w2.setCell ⟨B, 0, none⟩ (.int .i64 a)).setCell ⟨B, 1, none⟩ (.int .i64 b)).cell? ⟨B, 1, none⟩ = some (.int .i64 b) ∧ Below w.heap.size w ((w2.setCell ⟨B, 0, none⟩ (.int .i64 a)).setCell ⟨B, 1, none⟩ (.int .i64 b)))) := fun w2 a b hb => by
  have h9 := putB (putB (heapB hb hk) 0 (.int .i64 a)) 1 (.int .i64 b)
  have r0 := cell_of_heap h9 0; have r1 := cell_of_heap h9 1
  simp at r0 r1
  exact ⟨r0, r1, ((belowT hbel hb).setCell (p := ⟨B, 0, none⟩) hB _).setCell (p := ⟨B, 1, none⟩) hB _⟩
/-- The result's box is there and may be written. -/
theorem box2 {W : World} {B : Nat} {t : TypeId} (hk : W.heap[B]? = some (.cells #[.int .i64 0, .int .i64 0] t (0, 0))) : Hid (∀ w2 : World, Below W.heap.size W w2 → w2.cell? ⟨B, 0, none⟩ = some (.int .i64 0) ∧ w2.cell? ⟨B, 1, none⟩ = some (.int .i64 0) ∧ w2.frozen? ⟨B, 0, none⟩ = false ∧ w2.frozen? ⟨B, 1, none⟩ = false) := fun w2 hb => by
  have q := heapB hb hk
  exact ⟨cell_of_heap q 0, cell_of_heap q 1, free_of_heap q 0, free_of_heap q 1⟩

set_option maxRecDepth 100000 in
set_option maxHeartbeats 4000000 in
theorem done_c (f1 f2 : Nat) (xm xe ym ye r : Int) (R : Value) (w : World) (hx0 : -9223372036854775808 ≤ xm) (hx1 : xm ≤ 9223372036854775807) (hy0 : -9223372036854775808 ≤ ym) (hy1 : ym ≤ 9223372036854775807)
    (e1 : ∀ args w, (callFunc f1 args).run Tryz.prog w = .ok (.enter f1 args) w) (e2 : ∀ args w, (callFunc f2 args).run Tryz.prog w = .ok (.enter f2 args) w)
    (h1 : RV xm.natAbs xe → RV ym.natAbs ye → ∀ w', Calls Tryz.prog f1 #[.agg #[.int .i64 xm, .int .i64 xe], .agg #[.int .i64 ym, .int .i64 ye]] w' fun en w2 => en = .returned (.int .i64 r) ∧ Below w'.heap.size w' w2)
    (h2 : RV xm.natAbs xe → RV ym.natAbs ye → r = 0 → ∀ w', Calls Tryz.prog f2 #[.agg #[.int .i64 xm, .int .i64 xe], .agg #[.int .i64 ym, .int .i64 ye]] w' fun en w2 => ∃ v, en = .returned v ∧ AmtR w2 v R ∧ Below w'.heap.size w' w2)
    (hR : ∃ a b c, R = .tuple #[.agg #[.int .i64 a, .int .i64 b], .int .i64 c]) :
    Calls Tryz.prog 111 #[.agg #[.func (.func f1) #[] #[], .func (.func f2) #[] #[]], .agg #[.int .i64 xm, .int .i64 xe], .agg #[.int .i64 ym, .int .i64 ye]] w fun en w' => en = .returned (doneR xm xe ym ye r R) ∧ Below w.heap.size w w' := by
  obtain ⟨a, b, c, rfl⟩ := hR
  obtain ⟨W, hW, k0, k1, k2, k3, hbel⟩ := bx4g w #[.func (.func f1) #[] #[], .func (.func f2) #[] #[]] #[.int .i64 xm, .int .i64 xe] #[.int .i64 ym, .int .i64 ye] #[.int .i64 0, .int .i64 0] 113 23 23 23
  have HBEL := Lib.hid hbel
  have FIN := fin2 k3 (by omega) hbel
  have BOX := box2 k3
  have g00 := cell_of_heap k0 0; have g01 := cell_of_heap k0 1; have c00 := cell_of_heap k1 0; have c01 := cell_of_heap k1 1; have c10 := cell_of_heap k2 0; have c11 := cell_of_heap k2 1
  simp at g00 g01 c00 c01 c10 c11
  have HX := Lib.hid (fun w' => validR_c xm xe w' hx0 hx1)
  have HY := Lib.hid (fun w' => validR_c ym ye w' hy0 hy1)
  clear k0 k1 k2 k3 hbel hx0 hx1 hy0 hy1
  by_cases hx : RV xm.natAbs xe
  · rw [show decide (RV xm.natAbs xe) = true from decide_eq_true hx] at HX
    by_cases hy : RV ym.natAbs ye
    · rw [show decide (RV ym.natAbs ye) = true from decide_eq_true hy] at HY
      have H1 := Lib.hid (h1 hx hy)
      clear h1
      by_cases hr : r = 0
      · have hd : doneR xm xe ym ye r (.tuple #[.agg #[.int .i64 a, .int .i64 b], .int .i64 c]) = .tuple #[.agg #[.int .i64 a, .int .i64 b], .int .i64 c] := by unfold doneR; rw [if_pos ⟨hx, hy⟩, if_pos hr]
        rw [hd]
        have H2 := Lib.hid (h2 hx hy hr)
        clear h2
        subst hr
        clear hd hx hy
        go_enter Tryz.func111, Tryz.ntmps111
        go_wp2_with (first
          | (go_at_call 33; (with_reducible refine (HX.out _).mono ?_); rintro en w2 ⟨rfl, hbz⟩; have c10 := keep_cell hbz c10; have c11 := keep_cell hbz c11; have c00 := keep_cell hbz c00; have c01 := keep_cell hbz c01; have g00 := keep_cell hbz g00; have g01 := keep_cell hbz g01; have HB := Lib.hid hbz; clear hbz)
          | (go_at_call 33; (with_reducible refine (HY.out _).mono ?_); rintro en w2 ⟨rfl, hbz⟩; have c10 := keep_cell hbz c10; have c11 := keep_cell hbz c11; have c00 := keep_cell hbz c00; have c01 := keep_cell hbz c01; have g00 := keep_cell hbz g00; have g01 := keep_cell hbz g01; have HB := Lib.hid (belowT HB.out hbz); clear hbz)
          | (go_at_fn f1; (with_reducible refine (H1.out _).mono ?_); rintro en w2 ⟨rfl, hbz⟩; have c10 := keep_cell hbz c10; have c11 := keep_cell hbz c11; have c00 := keep_cell hbz c00; have c01 := keep_cell hbz c01; have g00 := keep_cell hbz g00; have g01 := keep_cell hbz g01; have HB := Lib.hid (belowT HB.out hbz); clear hbz)
          | (go_at_fn f2; (with_reducible refine (H2.out _).mono ?_); rintro en w2 ⟨v, rfl, ha, hbz⟩; have HA := Lib.hid ha; have HB := Lib.hid (belowT HB.out hbz); clear hbz ha)
          | (go_at_call 88; (with_reducible refine (rounded_R HA.out).mono ?_); rintro en w2 ⟨rfl, hbz⟩; have HB := Lib.hid (belowT HB.out hbz); obtain ⟨b0, b1, b2, b3⟩ := BOX.out _ HB.out; clear hbz))
        obtain ⟨r0, r1, hbb⟩ := FIN.out _ a b HB.out
        refine bodyPost_ret (v := .tuple #[.agg #[.int .i64 a, .int .i64 b], .int .i64 c]) (by simp [results, Tryz.results111, go_sem, r0, r1]) rfl ?_
        exact ⟨rfl, hbb⟩
      · have hd : doneR xm xe ym ye r (.tuple #[.agg #[.int .i64 a, .int .i64 b], .int .i64 c]) = .tuple #[.agg #[.int .i64 0, .int .i64 0], .int .i64 r] := by unfold doneR; rw [if_pos ⟨hx, hy⟩, if_neg hr]
        rw [hd]
        clear hd hx hy h2
        have hr' : (r != 0) = true := by simp [hr]
        go_enter Tryz.func111, Tryz.ntmps111
        go_wp2_with (first
          | (go_at_call 33; (with_reducible refine (HX.out _).mono ?_); rintro en w2 ⟨rfl, hbz⟩; have c10 := keep_cell hbz c10; have c11 := keep_cell hbz c11; have c00 := keep_cell hbz c00; have c01 := keep_cell hbz c01; have g00 := keep_cell hbz g00; have g01 := keep_cell hbz g01; have HB := Lib.hid hbz; clear hbz)
          | (go_at_call 33; (with_reducible refine (HY.out _).mono ?_); rintro en w2 ⟨rfl, hbz⟩; have c10 := keep_cell hbz c10; have c11 := keep_cell hbz c11; have c00 := keep_cell hbz c00; have c01 := keep_cell hbz c01; have g00 := keep_cell hbz g00; have g01 := keep_cell hbz g01; have HB := Lib.hid (belowT HB.out hbz); clear hbz)
          | (go_at_fn f1; (with_reducible refine (H1.out _).mono ?_); rintro en w2 ⟨rfl, hbz⟩; have c10 := keep_cell hbz c10; have c11 := keep_cell hbz c11; have c00 := keep_cell hbz c00; have c01 := keep_cell hbz c01; have g00 := keep_cell hbz g00; have g01 := keep_cell hbz g01; have HB := Lib.hid (belowT HB.out hbz); obtain ⟨b0, b1, b2, b3⟩ := BOX.out _ HB.out; clear hbz))
        obtain ⟨r0, r1, hbb⟩ := FIN.out _ 0 0 HB.out
        refine bodyPost_ret (v := .tuple #[.agg #[.int .i64 0, .int .i64 0], .int .i64 r]) (by simp [results, Tryz.results111, go_sem, r0, r1]) rfl ?_
        exact ⟨rfl, hbb⟩
    · have hd : doneR xm xe ym ye r (.tuple #[.agg #[.int .i64 a, .int .i64 b], .int .i64 c]) = .tuple #[.agg #[.int .i64 0, .int .i64 0], .int .i64 1] := by unfold doneR; rw [if_neg fun h => hy h.2]
      rw [hd]
      rw [show decide (RV ym.natAbs ye) = false from decide_eq_false hy] at HY
      clear hd hx hy h1 h2
      go_enter Tryz.func111, Tryz.ntmps111
      go_wp2_with (first
          | (go_at_call 33; (with_reducible refine (HX.out _).mono ?_); rintro en w2 ⟨rfl, hbz⟩; have c10 := keep_cell hbz c10; have c11 := keep_cell hbz c11; have c00 := keep_cell hbz c00; have c01 := keep_cell hbz c01; have g00 := keep_cell hbz g00; have g01 := keep_cell hbz g01; have HB := Lib.hid hbz; clear hbz)
          | (go_at_call 33; (with_reducible refine (HY.out _).mono ?_); rintro en w2 ⟨rfl, hbz⟩; have c10 := keep_cell hbz c10; have c11 := keep_cell hbz c11; have c00 := keep_cell hbz c00; have c01 := keep_cell hbz c01; have g00 := keep_cell hbz g00; have g01 := keep_cell hbz g01; have HB := Lib.hid (belowT HB.out hbz); obtain ⟨b0, b1, b2, b3⟩ := BOX.out _ HB.out; clear hbz))
      obtain ⟨r0, r1, hbb⟩ := FIN.out _ 0 0 HB.out
      refine bodyPost_ret (v := .tuple #[.agg #[.int .i64 0, .int .i64 0], .int .i64 1]) (by simp [results, Tryz.results111, go_sem, r0, r1]) rfl ?_
      exact ⟨rfl, hbb⟩
  · have hd : doneR xm xe ym ye r (.tuple #[.agg #[.int .i64 a, .int .i64 b], .int .i64 c]) = .tuple #[.agg #[.int .i64 0, .int .i64 0], .int .i64 1] := by unfold doneR; rw [if_neg fun h => hx h.1]
    rw [hd]
    rw [show decide (RV xm.natAbs xe) = false from decide_eq_false hx] at HX
    clear hd hx h1 h2
    go_enter Tryz.func111, Tryz.ntmps111
    go_wp2_with (first
          | (go_at_call 33; (with_reducible refine (HX.out _).mono ?_); rintro en w2 ⟨rfl, hbz⟩; have c10 := keep_cell hbz c10; have c11 := keep_cell hbz c11; have c00 := keep_cell hbz c00; have c01 := keep_cell hbz c01; have g00 := keep_cell hbz g00; have g01 := keep_cell hbz g01; have HB := Lib.hid hbz; obtain ⟨b0, b1, b2, b3⟩ := BOX.out _ HB.out; clear hbz))
    obtain ⟨r0, r1, hbb⟩ := FIN.out _ 0 0 HB.out
    refine bodyPost_ret (v := .tuple #[.agg #[.int .i64 0, .int .i64 0], .int .i64 1]) (by simp [results, Tryz.results111, go_sem, r0, r1]) rfl ?_
    exact ⟨rfl, hbb⟩
end Go.Proofs.YtekbfommnmikbaaGreatDoor
/- Package real: Sum. -/
namespace Go.Proofs.YtekbfommnmikbaaGreatDoor
set_option linter.unusedVariables false
set_option linter.unusedSimpArgs false
open Go.RowKit Go.Shelf Go.Proofs
attribute [local go_sem ↓] Go.wp_at_zero Go.wp_at_succ

set_option maxHeartbeats 1000000 in
theorem sumf_c (m e : Int) (w : World) (h0 : -9223372036854775808 ≤ m) (h1 : m ≤ 9223372036854775807) : Calls Tryz.prog 116 #[.agg #[.int .i64 m, .int .i64 e]] w fun en w' => en = .returned (.bool (!decide (RV m.natAbs e))) ∧ Below w.heap.size w w' := by
  obtain ⟨b, hb⟩ : ∃ b, decide (RV m.natAbs e) = b := ⟨_, rfl⟩
  have HV := Lib.hid (fun w' => validR_c m e w' h0 h1)
  rw [hb] at HV ⊢
  clear hb h0 h1
  go_enter Tryz.func116, Tryz.ntmps116
  go_wp2_with (go_at_call 33; (with_reducible refine (HV.out _).mono ?_); rintro en w2 ⟨rfl, hbz⟩; have HB2 := Lib.hid hbz; clear hbz)
  go_ret
  exact ⟨rfl, belowT ((Below.refl _ _).alloc (Nat.le_refl _) _) HB2.out⟩

/-- Ints. -/
def In64 (l : List (Int × Int)) : Prop := ∀ p ∈ l, -9223372036854775808 ≤ p.1 ∧ p.1 ≤ 9223372036854775807

set_option maxRecDepth 100000 in
set_option maxHeartbeats 2000000 in
theorem indexfR_c (A : Option Addr) (c : Nat) (l : List (Int × Int)) (w : World) (hr : Reals w A l) (hi : In64 l) (hl : l.length ≤ 9223372036854775807) :
    Calls Tryz.prog 176 #[.slice A l.length c, .func (.func 116) #[] #[]] w fun e w' => (∃ i : Int, e = .returned (.int .i64 i) ∧ (0 ≤ i ↔ ∃ p ∈ l, ¬ RV p.1.natAbs p.2)) ∧ Below w.heap.size w w' := by
  have HR := Lib.hid hr; have HI := Lib.hid hi
  clear hr hi
  go_enter Tryz.func176, Tryz.ntmps176
  go_wp2_with fail
  go_loopg [8] l.length (fun g iv wr => ∃ k : Nat, iv = .int .i64 (k : Int) ∧ k + g = l.length ∧ Hid (∀ p ∈ l.take k, RV p.1.natAbs p.2) ∧ Hid (Below w.heap.size w wr))
  case atStart => exact ⟨0, rfl, by omega, fun x hx => by simp at hx, Below.refl _ _⟩
  case round =>
    obtain ⟨k, rfl, hk, HZ, HB⟩ := hrel
    by_cases hlt : k < l.length
    · obtain ⟨a, rfl, hc0, hc1⟩ := (HR.out.below HB.out) k hlt
      have HT := Lib.hid (drop_take' hlt (d := l[k]?.getD (0, 0)) (x := (0, 0)) rfl)
      have hmem : l[k]?.getD (0, 0) ∈ l := by rw [List.getElem?_eq_getElem hlt]; exact List.getElem_mem hlt
      have h64 := HI.out _ hmem
      obtain ⟨m, e, hme⟩ : ∃ m e, l[k]?.getD (0, 0) = (m, e) := ⟨_, _, rfl⟩
      rw [hme] at hc0 hc1 h64 HT hmem
      dsimp only at hc0 hc1 h64
      have hc1' : wr.cell? { block := (a.add (k * 2)).block, off := (a.add (k * 2)).off + 1, spot := none } = some (.int .i64 e) := hc1
      have HM := Lib.hid hmem
      have HK := Lib.hid hk
      have HF := Lib.hid (fun w' => sumf_c m e w' h64.1 h64.2)
      clear hk hmem hme h64
      by_cases hv : RV m.natAbs e
      · rw [show (!decide (RV m.natAbs e)) = false from by rw [decide_eq_true hv]; rfl] at HF
        have HV := Lib.hid hv
        clear hv
        go_wp2_with (go_at_call 116; (with_reducible refine (HF.out _).mono ?_); rintro en w2 ⟨rfl, hbz⟩; have HB2 := Lib.hid hbz; clear hbz)
        go_roundg (gk - 1)
        case measure => have := HK.out; omega
        case rel =>
          refine ⟨k + 1, by go_num, by have := HK.out; omega, fun y hy => ?_, belowT HB.out HB2.out⟩
          rw [HT.out] at hy
          rcases List.mem_append.1 hy with hy | hy
          · exact HZ.out y hy
          · rw [List.mem_singleton.1 hy]; exact HV.out
      · rw [show (!decide (RV m.natAbs e)) = true from by rw [decide_eq_false hv]; rfl] at HF
        have HV := Lib.hid hv
        clear hv
        go_wp2_with (go_at_call 116; (with_reducible refine (HF.out _).mono ?_); rintro en w2 ⟨rfl, hbz⟩; have HB2 := Lib.hid hbz; clear hbz)
        go_ret
        exact ⟨⟨_, rfl, fun _ => ⟨_, HM.out, HV.out⟩, fun _ => by omega⟩, belowT HB.out HB2.out⟩
    · have HN : Hid (¬ ∃ p ∈ l, ¬ RV p.1.natAbs p.2) := by
        rintro ⟨x, hx, h0⟩
        exact h0 (HZ.out x (by rw [List.take_of_length_le (by omega)]; exact hx))
      go_wp2_with fail
      go_ret
      exact ⟨⟨_, rfl, fun h => by omega, fun h => absurd h HN.out⟩, HB.out⟩

set_option maxHeartbeats 1000000 in
theorem containsfR_c (A : Option Addr) (c : Nat) (l : List (Int × Int)) (b : Bool) (w : World) (hr : Reals w A l) (hi : In64 l) (hl : l.length ≤ 9223372036854775807) (hb : b = true ↔ ∃ p ∈ l, ¬ RV p.1.natAbs p.2) :
    Calls Tryz.prog 115 #[.slice A l.length c, .func (.func 116) #[] #[]] w fun e w' => e = .returned (.bool b) ∧ Below w.heap.size w w' := by
  have HR := Lib.hid hr; have HL := Lib.hid hl; have HBB := Lib.hid hb; have HIN := Lib.hid hi
  clear hr hl hb hi
  go_enter Tryz.func115, Tryz.ntmps115
  go_wp2_with (go_at_call 176; (with_reducible refine (indexfR_c A c l _ HR.out HIN.out HL.out).mono ?_); rintro e w' ⟨⟨i, rfl, hi⟩, hbz⟩; have HI := Lib.hid hi; have HB2 := Lib.hid hbz; clear hi hbz)
  go_ret
  refine ⟨?_, HB2.out⟩
  rw [show b = decide (0 ≤ i) from by rw [Bool.eq_iff_iff, HBB.out, decide_eq_true_iff]; exact HI.out.symm]
  rfl

/-- The exact sum, rounded. -/
def sumR (l : List (Int × Int)) : Value := resR (decide (sumV l < 0)) (rnd (sumV l).natAbs (-222))
theorem sum_R (A : Option Addr) (c : Nat) (l : List (Int × Int)) (w : World) (hr : Reals w A l) (hv : ∀ p ∈ l, RV p.1.natAbs p.2) (hl : l.length ≤ 1000) :
    Calls Tryz.prog 110 #[.slice A l.length c] w fun en w' => ∃ v, en = .returned v ∧ AmtR w' v (sumR l) ∧ Below w.heap.size w w' := by
  refine (sum_c A c l w hr hv hl).mono ?_
  rintro en w' ⟨v, ds, rfl, ha, hi, hd, hn, hb⟩
  refine ⟨v, rfl, ⟨_, ds, _, _, ha, hi, by omega, by omega, by omega, ?_⟩, hb⟩
  unfold sumR
  rw [show withMore ds false = ds from rfl, show expMore (-222) false = -222 from rfl, hd, Int.toNat_natCast]
theorem res_sumR (l : List (Int × Int)) : ∃ a b c, sumR l = .tuple #[.agg #[.int .i64 a, .int .i64 b], .int .i64 c] := res_form _ _

/-- What Sum returns. -/
def okL (l : List (Int × Int)) : Bool := l.all fun p => decide (RV p.1.natAbs p.2)
def sumX (l : List (Int × Int)) : Value := if 1000 < l.length then .tuple #[.agg #[.int .i64 0, .int .i64 0], .int .i64 2] else if okL l = true then sumR l else .tuple #[.agg #[.int .i64 0, .int .i64 0], .int .i64 1]
theorem bx1h (w : World) (a0 : Array Value) (t0 : TypeId) : ∃ W, w.alloc (.cells a0 t0) = W ∧ W.heap[w.heap.size]? = some (.cells a0 t0 (0, 0)) ∧ Below w.heap.size w W :=
  ⟨_, rfl, heap_alloc_new _ _, (Below.refl _ _).alloc (Nat.le_refl _) _⟩

set_option maxRecDepth 100000 in
set_option maxHeartbeats 2000000 in
theorem sumX_c (A : Option Addr) (c : Nat) (l : List (Int × Int)) (w : World) (hr : Reals w A l) (hi : In64 l) (hl : l.length ≤ 9223372036854775807) :
    Calls Tryz.prog 40 #[.slice A l.length c] w fun en w' => en = .returned (sumX l) ∧ Below w.heap.size w w' := by
  obtain ⟨W, hW, k0, hbel⟩ := bx1h w #[.int .i64 0, .int .i64 0] 23
  have HBEL := Lib.hid hbel
  have FIN := fin2 k0 (Nat.le_refl _) hbel
  have BOX := box2 k0
  have HR := Lib.hid (hr.below hbel); have HIN := Lib.hid hi; have HL := Lib.hid hl
  clear k0 hbel hr hi
  by_cases h : 1000 < l.length
  · have e : sumX l = .tuple #[.agg #[.int .i64 0, .int .i64 0], .int .i64 2] := by unfold sumX; rw [if_pos h]
    rw [e]
    clear e
    have h' : (1000 : Int) < (l.length : Int) := by omega
    obtain ⟨b0, b1, b2, b3⟩ := BOX.out W (Below.refl _ _)
    go_enter Tryz.func40, Tryz.ntmps40
    go_wp2_with fail
    obtain ⟨r0, r1, hbb⟩ := FIN.out W 0 0 (Below.refl _ _)
    refine bodyPost_ret (v := .tuple #[.agg #[.int .i64 0, .int .i64 0], .int .i64 2]) (by simp [results, Tryz.results40, go_sem, r0, r1]) rfl ?_
    exact ⟨rfl, hbb⟩
  · have h' : ¬ (1000 : Int) < (l.length : Int) := by omega
    obtain ⟨ok, hok⟩ : ∃ b, okL l = b := ⟨_, rfl⟩
    have hb : (!ok) = true ↔ ∃ p ∈ l, ¬ RV p.1.natAbs p.2 := by
      rw [← hok]
      unfold okL
      rw [Bool.not_eq_true', ← Bool.not_eq_true, List.all_eq_true]
      simp
    have HCF := Lib.hid (fun w' (hr' : Reals w' A l) => containsfR_c A c l (!ok) w' hr' HIN.out HL.out hb)
    clear hb
    cases ok
    · have e : sumX l = .tuple #[.agg #[.int .i64 0, .int .i64 0], .int .i64 1] := by unfold sumX; rw [if_neg h, if_neg (by rw [hok]; decide)]
      rw [e]
      clear e hok
      go_enter Tryz.func40, Tryz.ntmps40
      go_wp2_with (go_at_call 115; (with_reducible refine (HCF.out _ HR.out).mono ?_); rintro en w2 ⟨rfl, hbz⟩; obtain ⟨b0, b1, b2, b3⟩ := BOX.out _ hbz; have HB2 := Lib.hid hbz; clear hbz)
      obtain ⟨r0, r1, hbb⟩ := FIN.out w2 0 0 HB2.out
      refine bodyPost_ret (v := .tuple #[.agg #[.int .i64 0, .int .i64 0], .int .i64 1]) (by simp [results, Tryz.results40, go_sem, r0, r1]) rfl ?_
      exact ⟨rfl, hbb⟩
    · have e : sumX l = sumR l := by unfold sumX; rw [if_neg h, if_pos hok]
      have hv : ∀ p ∈ l, RV p.1.natAbs p.2 := by
        intro p hp
        unfold okL at hok
        exact of_decide_eq_true (List.all_eq_true.1 hok p hp)
      have HSM := Lib.hid (fun w' (hr' : Reals w' A l) => sum_R A c l w' hr' hv (by omega))
      rw [e]
      obtain ⟨a, b, d, hres⟩ := res_sumR l
      rw [hres] at HSM ⊢
      clear e hok hv hres
      go_enter Tryz.func40, Tryz.ntmps40
      go_wp2_with (first
        | (go_at_call 115; (with_reducible refine (HCF.out _ HR.out).mono ?_); rintro en w2 ⟨rfl, hbz⟩; have HB2 := Lib.hid hbz; clear hbz)
        | (go_at_call 110; (with_reducible refine (HSM.out _ (HR.out.below HB2.out)).mono ?_); rintro en w3 ⟨v, rfl, ha, hbz⟩; have HA := Lib.hid ha; have HB3 := Lib.hid (belowT HB2.out hbz); clear hbz ha)
        | (go_at_call 88; (with_reducible refine (rounded_R HA.out).mono ?_); rintro en w4 ⟨rfl, hbz⟩; have hb4 := belowT HB3.out hbz; obtain ⟨b0, b1, b2, b3⟩ := BOX.out _ hb4; have HB4 := Lib.hid hb4; clear hbz hb4))
      obtain ⟨r0, r1, hbb⟩ := FIN.out w4 a b HB4.out
      refine bodyPost_ret (v := .tuple #[.agg #[.int .i64 a, .int .i64 b], .int .i64 d]) (by simp [results, Tryz.results40, go_sem, r0, r1]) rfl ?_
      exact ⟨rfl, hbb⟩
end Go.Proofs.YtekbfommnmikbaaGreatDoor
/- Package real: Scale. -/
namespace Go.Proofs.YtekbfommnmikbaaGreatDoor
set_option linter.unusedVariables false
set_option linter.unusedSimpArgs false
open Go.RowKit Go.Shelf Go.Proofs
attribute [local go_sem ↓] Go.wp_at_zero Go.wp_at_succ

/-- What Scale returns. -/
def scaleR (m e n : Int) : Value :=
  if ¬ RV m.natAbs e then .tuple #[.agg #[.int .i64 0, .int .i64 0], .int .i64 1]
  else if 1000 < n ∨ n < -1000 then .tuple #[.agg #[.int .i64 0, .int .i64 0], .int .i64 1]
  else resR (decide (m < 0)) (rnd m.natAbs (e + n))

set_option maxRecDepth 100000 in
set_option maxHeartbeats 4000000 in
theorem scaleR_c (m e n : Int) (w : World) (h0 : -9223372036854775808 ≤ m) (h1 : m ≤ 9223372036854775807) :
    Calls Tryz.prog 18 #[.agg #[.int .i64 m, .int .i64 e], .int .i64 n] w fun en w' => en = .returned (scaleR m e n) ∧ Below w.heap.size w w' := by
  obtain ⟨W, hW, k0, k1, hbel, hsz⟩ := bx2h w #[.int .i64 m, .int .i64 e] #[.int .i64 0, .int .i64 0] 23 23
  have HBEL := Lib.hid hbel
  have FIN := fin2 k1 (by omega) hbel
  have BOX := box2 k1
  have c00 := cell_of_heap k0 0; have c01 := cell_of_heap k0 1
  simp at c00 c01
  have HV := Lib.hid (fun w' => validR_c m e w' h0 h1)
  clear k0 k1 hbel hsz
  by_cases h : RV m.natAbs e
  · rw [show decide (RV m.natAbs e) = true from decide_eq_true h] at HV
    have hnn : ¬ ¬ RV m.natAbs e := fun x => x h
    by_cases a : 1000 < n ∨ n < -1000
    · have hr : scaleR m e n = .tuple #[.agg #[.int .i64 0, .int .i64 0], .int .i64 1] := by unfold scaleR; rw [if_neg hnn, if_pos a]
      rw [hr]
      have hcase : 1000 < n ∨ (¬ 1000 < n ∧ n < -1000) := by omega
      clear hr hnn h a
      go_enter Tryz.func18, Tryz.ntmps18
      rcases hcase with a1 | ⟨a1, a2⟩
      all_goals
        go_wp2_with (go_at_call 33; (with_reducible refine (HV.out _).mono ?_); rintro en w2 ⟨rfl, hbz⟩; have c00 := keep_cell hbz c00; have c01 := keep_cell hbz c01; obtain ⟨b0, b1, b2, b3⟩ := BOX.out _ hbz; have HB := Lib.hid hbz; clear hbz)
        obtain ⟨r0, r1, hbb⟩ := FIN.out _ 0 0 HB.out
        refine bodyPost_ret (v := .tuple #[.agg #[.int .i64 0, .int .i64 0], .int .i64 1]) (by simp [results, Tryz.results18, go_sem, r0, r1]) rfl ?_
        exact ⟨rfl, hbb⟩
    · have a1 : ¬ 1000 < n := by omega
      have a2 : ¬ n < -1000 := by omega
      have hr : scaleR m e n = resR (decide (m < 0)) (rnd m.natAbs (e + n)) := by unfold scaleR; rw [if_neg hnn, if_neg a]
      rw [hr]
      obtain ⟨x0, x1, x2⟩ := RV_abs h
      have HAM := Lib.hid (fun w' => amountOf_c m e w' (by omega))
      obtain ⟨s, hs⟩ : ∃ s, decide (m < 0) = s := ⟨_, rfl⟩
      obtain ⟨ds, hds⟩ : ∃ ds, (dg 10 m.natAbs).reverse = ds := ⟨_, rfl⟩
      have hl := dgR_len h
      have hi := inR_dgR m.natAbs
      have hv := vd_dg m.natAbs
      rw [hs, hds] at HAM
      rw [hds] at hl hi hv
      rw [hs]
      have HRD := Lib.hid (fun A c w' (hr : Row .u8 w' A ds) hc hm => rounded_c s A c ds (e + n) false w' hr hc hm hi (by omega) (by omega) (by omega))
      rw [show withMore ds false = ds from rfl, show expMore (e + n) false = e + n from rfl, hv, Int.toNat_natCast] at HRD
      obtain ⟨a', b', c', hf⟩ := res_form s (rnd m.natAbs (e + n))
      rw [hf] at HRD ⊢
      clear hr hnn h hs hds hl hi hv hf a x0
      go_enter Tryz.func18, Tryz.ntmps18
      go_wp2_with (first
        | (go_at_call 33; (with_reducible refine (HV.out _).mono ?_); rintro en w2 ⟨rfl, hbz⟩; have c00 := keep_cell hbz c00; have c01 := keep_cell hbz c01; have HB := Lib.hid hbz; clear hbz)
        | (go_at_call 87; (with_reducible refine (HAM.out _).mono ?_); rintro en w3 ⟨v, rfl, ⟨A9, c9, rfl, hc9, hm9, hr9⟩, hbz⟩; have HR9 := Lib.hid hr9; have HC9 := Lib.hid hc9; have HM9 := Lib.hid hm9; have HB := Lib.hid (belowT HB.out hbz); clear hbz hr9 hc9 hm9)
        | (go_at_call 88; (with_reducible refine (HRD.out A9 c9 _ (HR9.out.below ((Below.refl _ _).alloc (Nat.le_refl _) _)) HC9.out HM9.out).mono ?_); rintro en w4 ⟨rfl, hbz⟩; have HB := Lib.hid (belowT (belowA HB.out _) hbz); obtain ⟨b0, b1, b2, b3⟩ := BOX.out _ HB.out; clear hbz))
      obtain ⟨r0, r1, hbb⟩ := FIN.out _ a' b' HB.out
      refine bodyPost_ret (v := .tuple #[.agg #[.int .i64 a', .int .i64 b'], .int .i64 c']) (by simp [results, Tryz.results18, go_sem, r0, r1]) rfl ?_
      exact ⟨rfl, hbb⟩
  · rw [show decide (RV m.natAbs e) = false from decide_eq_false h] at HV
    have hr : scaleR m e n = .tuple #[.agg #[.int .i64 0, .int .i64 0], .int .i64 1] := by unfold scaleR; rw [if_pos h]
    rw [hr]
    clear hr h
    go_enter Tryz.func18, Tryz.ntmps18
    go_wp2_with (go_at_call 33; (with_reducible refine (HV.out _).mono ?_); rintro en w2 ⟨rfl, hbz⟩; have c00 := keep_cell hbz c00; have c01 := keep_cell hbz c01; obtain ⟨b0, b1, b2, b3⟩ := BOX.out _ hbz; have HB := Lib.hid hbz; clear hbz)
    obtain ⟨r0, r1, hbb⟩ := FIN.out _ 0 0 HB.out
    refine bodyPost_ret (v := .tuple #[.agg #[.int .i64 0, .int .i64 0], .int .i64 1]) (by simp [results, Tryz.results18, go_sem, r0, r1]) rfl ?_
    exact ⟨rfl, hbb⟩
end Go.Proofs.YtekbfommnmikbaaGreatDoor
/- Package real: Round. -/
namespace Go.Proofs.YtekbfommnmikbaaGreatDoor
set_option linter.unusedVariables false
set_option linter.unusedSimpArgs false
open Go.RowKit Go.Shelf Go.Proofs
attribute [local go_sem ↓] Go.wp_at_zero Go.wp_at_succ

theorem row_add {kd : IntKind} {w : World} {a : Addr} {l : List Int} (k : Nat) (h : Row kd w (some a) l) : Row kd w (some (a.add k)) (l.drop k) := by
  rcases Nat.eq_zero_or_pos k with rfl | hk
  · simpa [Addr.add] using h
  · have := row_drop hk h
    rwa [show a.add k = ⟨a.block, a.off + k, none⟩ from by unfold Addr.add; rw [if_neg (by omega)]]
theorem two_off {w : World} {B : Nat} (i j : Nat) (u v : Value) : ∀ g, g ≠ B → ((w.setCell ⟨B, i, none⟩ u).setCell ⟨B, j, none⟩ v).heap[g]? = w.heap[g]? := fun g hg => by
  rw [Below.heap_setCell _ _ _ _ hg, Below.heap_setCell _ _ _ _ hg]
/-- What Round returns. -/
def roundR (m e p : Int) : Value :=
  if ¬ RV m.natAbs e then .tuple #[.agg #[.int .i64 0, .int .i64 0], .int .i64 1]
  else if 1000 < p ∨ p < -1000 then .tuple #[.agg #[.int .i64 0, .int .i64 0], .int .i64 1]
  else if -p - e ≤ 0 then .tuple #[.agg #[.int .i64 m, .int .i64 e], .int .i64 0]
  else if (nd m.natAbs : Int) < -p - e then .tuple #[.agg #[.int .i64 0, .int .i64 0], .int .i64 0]
  else resR (decide (m < 0)) (rnd (rdiv m.natAbs (-p - e).toNat) (-p))

set_option maxRecDepth 100000 in
set_option maxHeartbeats 4000000 in
theorem roundR_c (m e p : Int) (w : World) (h0 : -9223372036854775808 ≤ m) (h1 : m ≤ 9223372036854775807) :
    Calls Tryz.prog 19 #[.agg #[.int .i64 m, .int .i64 e], .int .i64 p] w fun en w' => en = .returned (roundR m e p) ∧ Below w.heap.size w w' := by
  obtain ⟨W, hW, k0, k1, hbel, hsz⟩ := bx2h w #[.int .i64 m, .int .i64 e] #[.int .i64 0, .int .i64 0] 23 23
  have HBEL := Lib.hid hbel
  have FIN := fin2 k1 (by omega) hbel
  have BOX := box2 k1
  have c00 := cell_of_heap k0 0; have c01 := cell_of_heap k0 1
  simp at c00 c01
  have HV := Lib.hid (fun w' => validR_c m e w' h0 h1)
  clear k0 k1 hbel hsz
  by_cases h : RV m.natAbs e
  · rw [show decide (RV m.natAbs e) = true from decide_eq_true h] at HV
    have hnn : ¬ ¬ RV m.natAbs e := fun x => x h
    by_cases a : 1000 < p ∨ p < -1000
    · have hr : roundR m e p = .tuple #[.agg #[.int .i64 0, .int .i64 0], .int .i64 1] := by unfold roundR; rw [if_neg hnn, if_pos a]
      rw [hr]
      have hcase : 1000 < p ∨ (¬ 1000 < p ∧ p < -1000) := by omega
      clear hr hnn h a
      go_enter Tryz.func19, Tryz.ntmps19
      rcases hcase with a1 | ⟨a1, a2⟩
      all_goals
        go_wp2_with (go_at_call 33; (with_reducible refine (HV.out _).mono ?_); rintro en w2 ⟨rfl, hbz⟩; have c00 := keep_cell hbz c00; have c01 := keep_cell hbz c01; obtain ⟨b0, b1, b2, b3⟩ := BOX.out _ hbz; have HB := Lib.hid hbz; clear hbz)
        obtain ⟨r0, r1, hbb⟩ := FIN.out _ 0 0 HB.out
        refine bodyPost_ret (v := .tuple #[.agg #[.int .i64 0, .int .i64 0], .int .i64 1]) (by simp [results, Tryz.results19, go_sem, r0, r1]) rfl ?_
        exact ⟨rfl, hbb⟩
    have a1 : ¬ 1000 < p := by omega
    have a2 : ¬ p < -1000 := by omega
    obtain ⟨x0, x1, x2⟩ := RV_abs h
    have HAM := Lib.hid (fun w' => amountOf_c m e w' (by omega))
    obtain ⟨s, hs⟩ : ∃ s, decide (m < 0) = s := ⟨_, rfl⟩
    obtain ⟨ds, hds⟩ : ∃ ds, (dg 10 m.natAbs).reverse = ds := ⟨_, rfl⟩
    have hl := dgR_len h
    have hi := inR_dgR m.natAbs
    have hv := vd_dg m.natAbs
    have hn : ds.length = nd m.natAbs := by rw [← hds, List.length_reverse]; rfl
    rw [hs, hds] at HAM
    rw [hds] at hl hi hv
    have HI := Lib.hid hi
    obtain ⟨L, hL⟩ : ∃ L, ds.length = L := ⟨_, rfl⟩
    rw [hL] at hl hn
    have HL := Lib.hid hL
    obtain ⟨cut, hcut⟩ : ∃ cut, -p - e = cut := ⟨_, rfl⟩
    by_cases b : cut ≤ 0
    · have hr : roundR m e p = .tuple #[.agg #[.int .i64 m, .int .i64 e], .int .i64 0] := by unfold roundR; rw [if_neg hnn, if_neg a, hcut, if_pos b]
      rw [hr]
      clear hr hnn h hs hds hi hv hn a
      go_enter Tryz.func19, Tryz.ntmps19
      go_upto_region 5 with (first
        | (go_at_call 33; (with_reducible refine (HV.out _).mono ?_); rintro en w2 ⟨rfl, hbz⟩; have c00 := keep_cell hbz c00; have c01 := keep_cell hbz c01; have HB := Lib.hid hbz; clear hbz)
        | (go_at_call 87; (with_reducible refine (HAM.out _).mono ?_); rintro en w3 ⟨v, rfl, ⟨A9, c9, rfl, hc9, hm9, hr9⟩, hbz⟩; have c00 := keep_cell hbz c00; have c01 := keep_cell hbz c01; have HB := Lib.hid (belowT HB.out hbz); clear hbz hr9 hc9 hm9))
      obtain ⟨W4, hW4⟩ : ∃ W4, w3.alloc (.cells #[.bool s, .slice A9 L c9, .int .i64 e, .bool false] 95) = W4 := ⟨_, rfl⟩
      have hb4 : Below w3.heap.size w3 W4 := by rw [← hW4]; exact (Below.refl _ _).alloc (Nat.le_refl _) _
      rw [hW4]
      have c00 := keep_cell hb4 c00; have c01 := keep_cell hb4 c01
      have HB4 := Lib.hid (belowT HB.out hb4)
      obtain ⟨b0, b1, b2, b3⟩ := BOX.out _ HB4.out
      clear hW4 hb4
      go_wp2_with fail
      obtain ⟨r0, r1, hbb⟩ := FIN.out _ m e HB4.out
      refine bodyPost_ret (v := .tuple #[.agg #[.int .i64 m, .int .i64 e], .int .i64 0]) (by simp [results, Tryz.results19, go_sem, r0, r1]) rfl ?_
      exact ⟨rfl, hbb⟩
    obtain ⟨C, hC⟩ : ∃ C : Nat, cut = (C : Int) := ⟨cut.toNat, by omega⟩
    subst hC
    have hC0 : 0 < C := by omega
    clear b
    by_cases d : L < C
    · have hr : roundR m e p = .tuple #[.agg #[.int .i64 0, .int .i64 0], .int .i64 0] := by unfold roundR; rw [if_neg hnn, if_neg a, hcut, if_neg (by omega), if_pos (by omega)]
      rw [hr]
      clear hr hnn h hs hds hi hv hn a
      go_enter Tryz.func19, Tryz.ntmps19
      go_upto_region 5 with (first
        | (go_at_call 33; (with_reducible refine (HV.out _).mono ?_); rintro en w2 ⟨rfl, hbz⟩; have c00 := keep_cell hbz c00; have c01 := keep_cell hbz c01; have HB := Lib.hid hbz; clear hbz)
        | (go_at_call 87; (with_reducible refine (HAM.out _).mono ?_); rintro en w3 ⟨v, rfl, ⟨A9, c9, rfl, hc9, hm9, hr9⟩, hbz⟩; have c00 := keep_cell hbz c00; have c01 := keep_cell hbz c01; have HB := Lib.hid (belowT HB.out hbz); clear hbz hr9 hc9 hm9))
      obtain ⟨W4, hW4⟩ : ∃ W4, w3.alloc (.cells #[.bool s, .slice A9 L c9, .int .i64 e, .bool false] 95) = W4 := ⟨_, rfl⟩
      have hb4 : Below w3.heap.size w3 W4 := by rw [← hW4]; exact (Below.refl _ _).alloc (Nat.le_refl _) _
      have hq4 : W4.heap[w3.heap.size]? = some (.cells #[.bool s, .slice A9 L c9, .int .i64 e, .bool false] 95 (0, 0)) := by rw [← hW4]; exact heap_alloc_new _ _
      rw [hW4]
      have c00 := keep_cell hb4 c00; have c01 := keep_cell hb4 c01
      have a00 := cell_of_heap hq4 0; have a01 := cell_of_heap hq4 1; have a02 := cell_of_heap hq4 2; have a03 := cell_of_heap hq4 3
      simp at a00 a01 a02 a03
      have hB4 := belowT HB.out hb4
      obtain ⟨b0, b1, b2, b3⟩ := BOX.out _ hB4
      have HB4 := Lib.hid hB4
      clear hb4 hq4 hB4
      go_wp2_with fail
      obtain ⟨r0, r1, hbb⟩ := FIN.out _ 0 0 HB4.out
      refine bodyPost_ret (v := .tuple #[.agg #[.int .i64 0, .int .i64 0], .int .i64 0]) (by simp [results, Tryz.results19, go_sem, r0, r1]) rfl ?_
      exact ⟨rfl, hbb⟩
    have hL12 : L = 12 := by
      have h1 : 0 < m.natAbs := by
        rcases Nat.eq_zero_or_pos m.natAbs with e0 | e0
        · rw [e0, nd_zero] at hn; omega
        · exact e0
      have h2 : 100000000000 ≤ m.natAbs := by unfold RV at h; omega
      have h3 := nd_eq (n := m.natAbs) (k := 11) (by omega) (by omega)
      omega
    subst hL12
    obtain ⟨K, hK⟩ : ∃ K : Nat, K = 12 - C := ⟨_, rfl⟩
    have hKC : (12 : Int) - (C : Int) = (K : Int) := by omega
    have hK12 : K < 12 := by omega
    have hr : roundR m e p = resR s (rnd (rdiv m.natAbs C) (-p)) := by unfold roundR; rw [if_neg hnn, if_neg a, hcut, if_neg (by omega), if_neg (by omega), Int.toNat_natCast, hs]
    rw [hr]
    have hrd := rdiv_cut hi K (by omega)
    rw [hv, Int.toNat_natCast, hL, show 12 - K = C by omega] at hrd
    have HKC := Lib.hid hKC
    obtain ⟨a', b', c', hf⟩ := res_form s (rnd (rdiv m.natAbs C) (-p))
    rw [hf]
    have HF := Lib.hid hf
    have HRDV := Lib.hid hrd
    have hKl : (ds.take K).length = K := by rw [List.length_take]; omega
    have hKi := hi.take K
    have hKlt : vd (ds.take K) < 1000000000000 := by
      have h1 := vd_lt hKi
      rw [hKl] at h1
      have h2 : (10 : Int) ^ K ≤ 10 ^ 12 := pow_mono' (b := 10) (by decide) (by omega)
      have h3 : (10 : Int) ^ 12 = 1000000000000 := by decide
      omega
    clear hr hnn h hs hds hv hn a hrd hf
    go_enter Tryz.func19, Tryz.ntmps19
    go_upto_region 5 with (first
        | (go_at_call 33; (with_reducible refine (HV.out _).mono ?_); rintro en w2 ⟨rfl, hbz⟩; have c00 := keep_cell hbz c00; have c01 := keep_cell hbz c01; have HB := Lib.hid hbz; clear hbz)
        | (go_at_call 87; (with_reducible refine (HAM.out _).mono ?_); rintro en w3 ⟨v, rfl, ⟨A9, c9, rfl, hc9, hm9, hr9⟩, hbz⟩; have c00 := keep_cell hbz c00; have c01 := keep_cell hbz c01; have HB := Lib.hid (belowT HB.out hbz); clear hbz))
    obtain ⟨W4, hW4⟩ : ∃ W4, w3.alloc (.cells #[.bool s, .slice A9 12 c9, .int .i64 e, .bool false] 95) = W4 := ⟨_, rfl⟩
    have hb4 : Below w3.heap.size w3 W4 := by rw [← hW4]; exact (Below.refl _ _).alloc (Nat.le_refl _) _
    have hq4 : W4.heap[w3.heap.size]? = some (.cells #[.bool s, .slice A9 12 c9, .int .i64 e, .bool false] 95 (0, 0)) := by rw [← hW4]; exact heap_alloc_new _ _
    rw [hW4]
    have c00 := keep_cell hb4 c00; have c01 := keep_cell hb4 c01
    have a00 := cell_of_heap hq4 0; have a01 := cell_of_heap hq4 1; have a02 := cell_of_heap hq4 2; have a03 := cell_of_heap hq4 3
    simp at a00 a01 a02 a03
    have hB4 := belowT HB.out hb4
    have hB3z : W.heap.size ≤ w3.heap.size := HB.out.size
    have HB4 := Lib.hid hB4
    have HR9 := Lib.hid (hr9.below hb4)
    have HQ4 := Lib.hid hq4
    clear hb4 hq4 hB4 hr9
    go_upto_region 10 with fail
    rw [← hK]
    have HKE := Lib.hid hK
    obtain ⟨a9, rfl⟩ : ∃ a9, A9 = some a9 := by obtain ⟨a9, e9, -⟩ := HR9.out 0 (by rw [HL.out]; omega); exact ⟨a9, e9⟩
    have HKI := Lib.hid hKi; have HKL := Lib.hid hKl; have HKLT := Lib.hid hKlt
    clear hK hKi hKl hKlt
    go_wp2_with fail
    obtain ⟨nv, hnv⟩ : ∃ nv, nearV (ds.drop K) (vd (ds.take K)).toNat = nv := ⟨_, rfl⟩
    have hnv1 : nv ≤ 1 := by rw [← hnv]; exact near_le _ _
    have HNV := Lib.hid hnv
    clear hnv
    go_loopg [9, 52] K (fun g mv iv wr3 => ∃ (k : Nat) (m : Int), iv = .int .i64 (k : Int) ∧ k + g = K ∧ mv = .int .i64 m ∧ Hid (m = vd (ds.take k)) ∧ 0 ≤ m ∧ m ≤ 999999999999 ∧ wr3 = W4)
    case atStart => exact ⟨0, 0, rfl, Nat.zero_add _, rfl, by show _ = _; simp [vd], by omega, by omega, rfl⟩
    case round =>
      obtain ⟨k, m9, rfl, hk, rfl, HM, hm0, hm9', rfl⟩ := hrel
      have HK := Lib.hid hk
      by_cases hkK : k < K
      · have hkl : k < ds.length := by rw [HL.out]; omega
        obtain ⟨a8, e9, hcell⟩ := HR9.out k hkl
        cases e9
        have hin := HI.out.at_ (by decide) k
        rw [List.getD_eq_getElem?_getD] at hin
        have HT2 := Lib.hid (drop_take hkl)
        have hvl := vd_lt (HI.out.take (k + 1))
        have hvn := vd_nonneg (HI.out.take (k + 1))
        obtain ⟨x, hx⟩ : ∃ x, ds[k]?.getD 0 = x := ⟨_, rfl⟩
        rw [hx] at hcell hin HT2
        have hin9 : x < 10 := hin.2
        have hin0 := hin.1
        have HST : Hid (10 * m9 + x = vd (ds.take (k + 1))) := by show _ = _; rw [HT2.out, vd_snoc, HM.out]
        have hlim : vd (ds.take (k + 1)) < 1000000000000 := by
          rw [List.length_take, HL.out, show min (k + 1) 12 = k + 1 by omega] at hvl
          have hpw := pow_mono' (b := 10) (i := k + 1) (j := 12) (by decide) (by omega)
          simp only [Int.cast_ofNat_Int] at hpw
          have hpe : (10 : Int) ^ 12 = 1000000000000 := by decide
          omega
        have hb1 : 10 * m9 + x ≤ 999999999999 := by rw [HST.out]; omega
        have hb2 : 0 ≤ 10 * m9 + x := by rw [HST.out]; omega
        have hwr : IntKind.i64.wrap x = x := IntWalk.i64_in _ (by omega)
        clear hx hin hvl hvn hlim hk
        go_wp2_with fail
        go_roundg (gk - 1)
        case measure => have := HK.out; omega
        case rel => exact ⟨k + 1, 10 * m9 + x, by go_num, by have := HK.out; omega, rfl, HST.out, hb2, hb1, rfl⟩
      · obtain rfl : k = K := by omega
        obtain ⟨q, rfl⟩ : ∃ q : Nat, m9 = (q : Int) := ⟨m9.toNat, by omega⟩
        have HQ : Hid ((vd (ds.take k)).toNat = q) := by show _ = _; rw [← HM.out]; rfl
        have HQM : Hid (q + nv = rdiv m.natAbs C) := by have := HRDV.out; rw [HNV.out, HQ.out] at this; exact this
        clear hk hkK
        obtain ⟨V, hV⟩ : ∃ V, q + nv = V := ⟨_, rfl⟩
        have hqv : (q : Int) + (nv : Int) = (V : Int) := by omega
        have hV18 : V < 10 ^ 18 := by omega
        have hVe : rdiv m.natAbs C = V := by rw [← hV]; exact HQM.out.symm
        have HN1 : Hid (∀ w', Row .u8 w' (some a9) ds → Calls Tryz.prog 90 #[.slice (some (a9.add k)) (12 - k) (c9 - k), .int .i64 (q : Int)] w' fun e w2 => e = .returned (.int .i64 (nv : Int)) ∧ w' = w2) := fun w' hr => by
          have h1 := near_c (some (a9.add k)) (c9 - k) (ds.drop k) q w' (row_add k hr) (by rw [List.length_drop, HL.out]; omega) (by omega) (HI.out.drop k) (by omega)
          have h2 : nearV (ds.drop k) q = nv := by have := HNV.out; rw [HQ.out] at this; exact this
          rw [h2, List.length_drop, HL.out] at h1
          exact h1
        have HDG := Lib.hid (fun w' => digitsOf_c V w' hV18)
        obtain ⟨dv, hdv⟩ : ∃ dv, (dg 10 V).reverse = dv := ⟨_, rfl⟩
        have hdi := inR_dgR V
        have hdd := vd_dg V
        have hdl : dv.length ≤ 18 := by rw [← hdv, List.length_reverse]; exact (dg_length_le (by decide) V 18).2 hV18
        rw [hdv] at HDG hdi hdd
        have HRD := Lib.hid (fun A c w' (hr : Row .u8 w' A dv) hc hm => rounded_c s A c dv (-p) false w' hr hc hm hdi (by omega) (by omega) (by omega))
        rw [show withMore dv false = dv from rfl, show expMore (-p) false = -p from rfl, hdd, Int.toNat_natCast, ← hVe, HF.out] at HRD
        clear hV hVe hV18 hdv hdi hdd HQM
        go_wp2_with (first
          | (go_at_call 90; (with_reducible refine (HN1.out _ HR9.out).mono ?_); rintro en w5 ⟨rfl, rfl⟩)
          | (go_at_call 89; (with_reducible refine (HDG.out _).mono ?_); rintro en w5 ⟨v, rfl, ⟨A5, c5, rfl, hc5, hm5, hr5⟩, hf5, hbz⟩; have HR5 := Lib.hid hr5; have HC5 := Lib.hid hc5; have HM5 := Lib.hid hm5; have HB5 := Lib.hid (belowT HB4.out hbz); have q4 := heapB hbz HQ4.out; have q0 := cell_of_heap q4 0; have q1 := cell_of_heap q4 1; have q2 := cell_of_heap q4 2; have q3 := cell_of_heap q4 3; have y1 := free_of_heap q4 1; have y2 := free_of_heap q4 2; have HQ5 := Lib.hid q4; simp at q0 q1 q2 q3; clear hbz hr5 hf5 hc5 hm5 q4)
          | (go_at_call 88; (with_reducible refine (HRD.out A5 c5 _ (row_off HR5.out HQ5.out amt_cells (two_off _ _ _ _)) HC5.out HM5.out).mono ?_); rintro en w6 ⟨rfl, hbz⟩; have HB6 := Lib.hid (belowT ((HB5.out.setCell (p := ⟨w3.heap.size, 1, none⟩) (by exact hB3z) _).setCell (p := ⟨w3.heap.size, 2, none⟩) (by exact hB3z) _) hbz); obtain ⟨b0, b1, b2, b3⟩ := BOX.out _ HB6.out; clear hbz))
        obtain ⟨r0, r1, hbb⟩ := FIN.out _ a' b' HB6.out
        refine bodyPost_ret (v := .tuple #[.agg #[.int .i64 a', .int .i64 b'], .int .i64 c']) (by simp [results, Tryz.results19, go_sem, r0, r1]) rfl ?_
        exact ⟨rfl, hbb⟩
  · rw [show decide (RV m.natAbs e) = false from decide_eq_false h] at HV
    have hr : roundR m e p = .tuple #[.agg #[.int .i64 0, .int .i64 0], .int .i64 1] := by unfold roundR; rw [if_pos h]
    rw [hr]
    clear hr h
    go_enter Tryz.func19, Tryz.ntmps19
    go_wp2_with (go_at_call 33; (with_reducible refine (HV.out _).mono ?_); rintro en w2 ⟨rfl, hbz⟩; have c00 := keep_cell hbz c00; have c01 := keep_cell hbz c01; obtain ⟨b0, b1, b2, b3⟩ := BOX.out _ hbz; have HB := Lib.hid hbz; clear hbz)
    obtain ⟨r0, r1, hbb⟩ := FIN.out _ 0 0 HB.out
    refine bodyPost_ret (v := .tuple #[.agg #[.int .i64 0, .int .i64 0], .int .i64 1]) (by simp [results, Tryz.results19, go_sem, r0, r1]) rfl ?_
    exact ⟨rfl, hbb⟩
end Go.Proofs.YtekbfommnmikbaaGreatDoor
/- Integers read; exported functions of package number. -/
namespace Go.Proofs.YtekbfommnmikbaaGreatDoor
set_option linter.unusedVariables false
set_option linter.unusedSimpArgs false
open Go.RowKit Go.Shelf Go.Proofs
attribute [local go_sem] max2_int min2_int max_two min_two

/-- A digit's sign. -/
def isDig (b : UInt8) : Prop := 48 ≤ b.toNat ∧ b.toNat ≤ 57
/-- The number that decimal digits say. -/
def decVal : List UInt8 → Nat := List.foldl (fun acc b => 10 * acc + (b.toNat - 48)) 0

theorem decVal_append (l m : List UInt8) : decVal (l ++ m) = decVal l * 10 ^ m.length + decVal m := by
  have key : ∀ (m : List UInt8) (a : Nat), List.foldl (fun acc (b : UInt8) => 10 * acc + (b.toNat - 48)) a m = a * 10 ^ m.length + List.foldl (fun acc (b : UInt8) => 10 * acc + (b.toNat - 48)) 0 m := by
    intro m
    induction m with
    | nil => intro a; simp
    | cons b m ih =>
      intro a
      simp only [List.foldl_cons, List.length_cons]
      rw [ih (10 * a + (b.toNat - 48)), ih (10 * 0 + (b.toNat - 48)), Nat.pow_succ]
      grind
  unfold decVal
  rw [List.foldl_append, key m]

theorem ext_list (T : ByteArray) (a b : Nat) : (T.extract a b).data.toList = (T.data.toList.take b).drop a := by
  rw [ByteArray.data_extract]
  simp [List.drop_take]

end Go.Proofs.YtekbfommnmikbaaGreatDoor

namespace Go.Proofs.YtekbfommnmikbaaGreatDoor
set_option linter.unusedVariables false
set_option linter.unusedSimpArgs false
open Go.RowKit Go.Shelf Go.Proofs

/-- What ContainsFunc asks of each rune. -/
def noDig (r : Nat) : Bool := decide (r < 48) || decide (57 < r)

theorem idx_from (S : ByteArray) : ∀ (f pos : Nat), S.size - pos ≤ f → (0 ≤ Lib.idxFuncFrom noDig true S f pos ↔ ∃ j, ∃ h : j < S.size, pos ≤ j ∧ ¬ isDig S[j])
  | 0, pos, hf => by
    constructor
    · intro h; simp [Lib.idxFuncFrom] at h
    · rintro ⟨j, h, h1, _⟩; omega
  | f + 1, pos, hf => by
    by_cases hp : pos < S.size
    · rw [Lib.idxFuncFrom, if_pos hp]
      by_cases hd : isDig S[pos]
      · have ha : (S[pos]'hp).toNat < 128 := by have := hd.2; omega
        have hdec : Utf8.decode S pos = ((S[pos]'hp).toNat, 1) := by
          simp only [Utf8.decode, get_at S pos hp, ha, if_true]
        rw [hdec]
        have h1 := hd.1
        have h2 := hd.2
        have hn : ¬ noDig (S[pos]'hp).toNat = true := by simp only [noDig, Bool.or_eq_true, decide_eq_true_eq]; omega
        rw [if_neg hn, idx_from S f (pos + 1) (by omega)]
        constructor
        · rintro ⟨j, h, h3, h4⟩; exact ⟨j, h, by omega, h4⟩
        · rintro ⟨j, h, h3, h4⟩
          refine ⟨j, h, ?_, h4⟩
          rcases Nat.eq_or_lt_of_le h3 with e | e
          · subst e; exact absurd hd h4
          · exact e
      · have hy : noDig (Utf8.decode S pos).1 = true := by
          simp only [noDig, Bool.or_eq_true, decide_eq_true_eq]
          rcases Nat.lt_or_ge (S[pos]'hp).toNat 128 with ha | ha
          · have hdec : Utf8.decode S pos = ((S[pos]'hp).toNat, 1) := by
              simp only [Utf8.decode, get_at S pos hp, ha, if_true]
            rw [hdec]
            have : ¬ (48 ≤ (S[pos]'hp).toNat ∧ (S[pos]'hp).toNat ≤ 57) := hd
            simp only []
            omega
          · have := (decode_high S pos hp ha).1
            omega
        rw [if_pos hy]
        exact ⟨fun _ => ⟨pos, hp, Nat.le_refl _, hd⟩, fun _ => Int.natCast_nonneg _⟩
    · rw [Lib.idxFuncFrom_end _ _ _ _ _ hp]
      constructor
      · intro h; omega
      · rintro ⟨j, h, h1, _⟩; omega

theorem idx_digits (S : ByteArray) : 0 ≤ Lib.idxFunc noDig true S ↔ ¬ ∀ b ∈ S.data.toList, isDig b := by
  rw [Lib.idxFunc, idx_from S S.size 0 (by omega)]
  constructor
  · rintro ⟨j, h, _, hd⟩ hall
    exact hd (hall _ (Array.getElem_mem_toList (xs := S.data) (i := j) h))
  · intro h
    simp only [Classical.not_forall] at h
    obtain ⟨b, hb, hd⟩ := h
    obtain ⟨j, hj, e⟩ := List.getElem_of_mem hb
    refine ⟨j, by simpa using hj, Nat.zero_le _, ?_⟩
    have : S[j]'(by simpa using hj) = b := by rw [← e]; rfl
    rw [this]; exact hd

set_option maxHeartbeats 1000000 in
theorem noDig_c (x : Nat) (hx : x ≤ 1114111) (w : World) : Calls Tryz.prog 135 #[encR x] w fun e w' => e = .returned (.bool (noDig x)) ∧ w' = w := by
  have key : (decide ((x : Int) < 48) || decide (57 < (x : Int))) = noDig x := by
    unfold noDig
    congr 1 <;> (rw [decide_eq_decide]; omega)
  have HK := Lib.hid key
  clear key
  by_cases h1 : x < 48
  · have HN : Hid (noDig x = true) := by show noDig x = true; simp [noDig, h1]
    go_enter Tryz.func135, Tryz.ntmps135
    go_wp2
    go_ret
    exact ⟨by rw [HN.out]; rfl, rfl⟩
  · go_enter Tryz.func135, Tryz.ntmps135
    go_wp2
    go_ret
    exact ⟨by rw [← HK.out]; rfl, rfl⟩

/-! ### The integers' texts -/
theorem decDigits_dig (u : Nat) : ∀ b ∈ Lib.decDigits u, isDig b := by
  induction u using Nat.strongRecOn with
  | _ u ih =>
    have key : ∀ d : Nat, d < 10 → isDig (UInt8.ofNat (48 + d)) := fun d hd => by
      unfold isDig
      rw [UInt8.toNat_ofNat']
      omega
    intro b hb
    rw [Lib.decDigits] at hb
    split at hb
    · rename_i h
      rw [List.mem_singleton] at hb
      subst hb
      exact key u h
    · rename_i h
      rcases List.mem_append.1 hb with h1 | h1
      · exact ih (u / 10) (by omega) b h1
      · rw [List.mem_singleton] at h1
        subst h1
        exact key (u % 10) (Nat.mod_lt _ (by decide))

theorem decVal_decDigits (u : Nat) : decVal (Lib.decDigits u) = u := by
  induction u using Nat.strongRecOn with
  | _ u ih =>
    have key : ∀ d : Nat, d < 10 → decVal [UInt8.ofNat (48 + d)] = d := fun d hd => by
      simp only [decVal, List.foldl_cons, List.foldl_nil]
      rw [UInt8.toNat_ofNat']
      omega
    rw [Lib.decDigits]
    split
    · rename_i h; exact key u h
    · rename_i h
      rw [decVal_append, ih (u / 10) (by omega), key _ (Nat.mod_lt _ (by decide))]
      simp
      omega

theorem decDigits_ne (u : Nat) : Lib.decDigits u ≠ [] := by
  intro e
  have := Lib.decDigits_length u
  rw [e] at this
  have := Lib.nDigits_pos u
  simp at *
  omega

theorem head_append {l : List UInt8} (m : List UInt8) (h : l ≠ []) : (l ++ m).head? = l.head? := by
  cases l with
  | nil => exact absurd rfl h
  | cons a l => rfl

theorem decDigits_head (u : Nat) (hu : 0 < u) : (Lib.decDigits u).head? ≠ some 48 := by
  induction u using Nat.strongRecOn with
  | _ u ih =>
    rw [Lib.decDigits]
    split
    · rename_i h
      simp only [List.head?_cons, ne_eq, Option.some.injEq]
      intro e
      have := congrArg UInt8.toNat e
      rw [UInt8.toNat_ofNat'] at this
      simp at this
      omega
    · rename_i h
      have := ih (u / 10) (by omega) (by omega)
      have hne := decDigits_ne (u / 10)
      rwa [head_append _ hne]

theorem decDigits_zero : Lib.decDigits 0 = [48] := by rw [Lib.decDigits_one (by decide)]; rfl

theorem decVal_pos : ∀ {d : List UInt8}, (∀ b ∈ d, isDig b) → d ≠ [] → d.head? ≠ some 48 → 0 < decVal d
  | [], _, h, _ => absurd rfl h
  | b :: d, hd, _, hh => by
    have hb := hd b (List.mem_cons_self ..)
    have h1 := hb.1
    have hne : b.toNat ≠ 48 := fun e => hh (by simp; exact UInt8.toNat_inj.1 e)
    rw [show b :: d = [b] ++ d from rfl, decVal_append]
    have e : decVal [b] = b.toNat - 48 := by simp [decVal]
    have : 1 ≤ 10 ^ d.length := Nat.one_le_pow _ _ (by decide)
    have h2 : 1 * 1 ≤ decVal [b] * 10 ^ d.length := Nat.mul_le_mul (by omega) this
    omega

theorem dec_canon : ∀ (n : Nat) (d : List UInt8), d.length = n + 1 → (∀ b ∈ d, isDig b) → (d = [48] ∨ d.head? ≠ some 48) → Lib.decDigits (decVal d) = d := by
  intro n
  induction n with
  | zero =>
    intro d hl hd _
    match d, hl with
    | [b], _ =>
      have hb := hd b (List.mem_cons_self ..)
      have h1 := hb.1
      have h2 := hb.2
      have e : decVal [b] = b.toNat - 48 := by simp [decVal]
      rw [e, Lib.decDigits_one (by omega), show 48 + (b.toNat - 48) = b.toNat by omega, UInt8.ofNat_toNat]
  | succ n ih =>
    intro d hl hd hh
    have hne : d ≠ [] := by intro e; rw [e] at hl; simp at hl
    obtain ⟨d', b, rfl⟩ : ∃ d' b, d = d' ++ [b] := ⟨d.dropLast, d.getLast hne, (List.dropLast_concat_getLast hne).symm⟩
    have hl' : d'.length = n + 1 := by simpa using hl
    have hne' : d' ≠ [] := by intro e; rw [e] at hl'; simp at hl'
    have hb := hd b (by simp)
    have h1 := hb.1
    have h2 := hb.2
    have hd' : ∀ c ∈ d', isDig c := fun c hc => hd c (List.mem_append_left _ hc)
    have hh' : d'.head? ≠ some 48 := by
      rcases hh with hh | hh
      · have := congrArg List.length hh; simp at this; exact absurd this (by intro e; exact hne' e)
      · rwa [head_append _ hne'] at hh
    have hp := decVal_pos hd' hne' hh'
    have e : decVal [b] = b.toNat - 48 := by simp [decVal]
    have ev : decVal (d' ++ [b]) = decVal d' * 10 + (b.toNat - 48) := by rw [decVal_append, e]; simp
    rw [ev, Lib.decDigits, dif_neg (by omega), show (decVal d' * 10 + (b.toNat - 48)) / 10 = decVal d' by omega, show (decVal d' * 10 + (b.toNat - 48)) % 10 = b.toNat - 48 by omega, ih d' hl' hd' (.inr hh'), show 48 + (b.toNat - 48) = b.toNat by omega, UInt8.ofNat_toNat]

/-- l is the text of the integer z, of at most 200 digits. -/
def NumL (l : List UInt8) (z : Int) : Prop := l = Lib.itoa z ∧ z.natAbs < 10 ^ 200

theorem itoa_inj {x y : Int} (h : Lib.itoa x = Lib.itoa y) : x = y := by
  have key : ∀ u v : Nat, Lib.decDigits u = 45 :: Lib.decDigits v → False := fun u v e => by
    have := decDigits_dig u 45 (by rw [e]; simp)
    have h2 := this.1
    simp at h2
  unfold Lib.itoa at h
  split at h <;> split at h
  · have := congrArg decVal (List.cons.inj h).2
    rw [decVal_decDigits, decVal_decDigits] at this; omega
  · exact (key _ _ h.symm).elim
  · exact (key _ _ h).elim
  · have := congrArg decVal h
    rw [decVal_decDigits, decVal_decDigits] at this; omega


/-- What Valid looks at. -/
def validD (l d : List UInt8) : Prop := d ≠ [] ∧ d.length ≤ 200 ∧ ¬ (d.head? = some 48 ∧ l ≠ [48]) ∧ ∀ b ∈ d, isDig b

theorem trim_minus (r : List UInt8) : Lib.trimPrefix (45 :: r) [45] = r := by simp [Lib.trimPrefix, Lib.hasPrefix]
theorem trim_other {l : List UInt8} (h : l.head? ≠ some 45) : Lib.trimPrefix l [45] = l := by
  unfold Lib.trimPrefix Lib.hasPrefix
  rw [if_neg]
  intro e
  cases l with
  | nil => simp at e
  | cons a l =>
    simp at e
    exact h (by simp [e])

theorem len200 (u : Nat) : (Lib.decDigits u).length ≤ 200 ↔ u < 10 ^ 200 := by rw [Lib.decDigits_length]; exact nDigits_le (by decide)

theorem valid_iff (l : List UInt8) : validD l (Lib.trimPrefix l [45]) ↔ ∃ z, NumL l z := by
  constructor
  · rintro ⟨h1, h2, h3, h4⟩
    have hcan : ∀ d, Lib.trimPrefix l [45] = d → (d = [48] ∨ d.head? ≠ some 48) → Lib.decDigits (decVal d) = d ∧ decVal d < 10 ^ 200 := by
      intro d e hh
      rw [e] at h1 h2 h4
      have hlen : 0 < d.length := List.length_pos_iff.2 h1
      have := dec_canon (d.length - 1) d (by omega) h4 hh
      exact ⟨this, (len200 _).1 (by rw [this]; exact h2)⟩
    by_cases hm : l.head? = some 45
    · obtain ⟨r, rfl⟩ : ∃ r, l = 45 :: r := by
        cases l with
        | nil => simp at hm
        | cons a l => simp at hm; exact ⟨l, by rw [hm]⟩
      rw [trim_minus] at h1 h2 h3 h4 hcan
      have h48 : r.head? ≠ some 48 := fun e => h3 ⟨e, by simp⟩
      obtain ⟨c1, c2⟩ := hcan r rfl (.inr h48)
      have hp := decVal_pos h4 h1 h48
      refine ⟨-(decVal r : Int), ?_, by simpa using c2⟩
      rw [Lib.itoa, if_pos (by omega), show (-(decVal r : Int)).natAbs = decVal r by omega, c1]
    · rw [trim_other hm] at h1 h2 h3 h4 hcan
      have hh : l = [48] ∨ l.head? ≠ some 48 := by
        by_cases e : l = [48]
        · exact .inl e
        · exact .inr fun k => h3 ⟨k, e⟩
      obtain ⟨c1, c2⟩ := hcan l rfl hh
      refine ⟨(decVal l : Int), ?_, by simpa using c2⟩
      rw [Lib.itoa, if_neg (by omega), Int.toNat_natCast, c1]
  · rintro ⟨z, rfl, hz⟩
    by_cases hn : z < 0
    · rw [Lib.itoa, if_pos hn, trim_minus]
      refine ⟨decDigits_ne _, (len200 _).2 hz, fun h => decDigits_head _ (by omega) h.1, decDigits_dig _⟩
    · have hz' : z.toNat < 10 ^ 200 := by omega
      have hh : (Lib.decDigits z.toNat).head? ≠ some 45 := fun e => by
        have := decDigits_dig z.toNat 45 (List.mem_of_mem_head? e)
        have := this.1
        simp at this
      rw [Lib.itoa, if_neg hn, trim_other hh]
      refine ⟨decDigits_ne _, (len200 _).2 hz', fun h => ?_, decDigits_dig _⟩
      rcases Nat.eq_zero_or_pos z.toNat with h0 | h0
      · exact h.2 (by rw [h0, decDigits_zero])
      · exact decDigits_head _ h0 h.1

set_option maxHeartbeats 2000000 in
theorem valid_c (S : ByteArray) (w : World) : Calls Tryz.prog 62 #[.string S] w fun e w' => (∃ b, e = .returned (.bool b) ∧ (b = true ↔ ∃ z, NumL S.data.toList z)) ∧ Below w.heap.size w w' := by
  obtain ⟨D, hD⟩ : ∃ D : ByteArray, ⟨(Lib.trimPrefix S.data.toList [45]).toArray⟩ = D := ⟨_, rfl⟩
  have hDl : D.data.toList = Lib.trimPrefix S.data.toList [45] := by rw [← hD]
  have hV := valid_iff S.data.toList
  rw [← hDl] at hV
  have hsz : D.size = D.data.toList.length := by rw [Array.length_toList]; rfl
  have hla : D.toList = [] ↔ D.data.toList = [] := by rw [ByteArray.toList_eq]
  have hls : S.toList = [48] ↔ S.data.toList = [48] := by rw [ByteArray.toList_eq]
  have hid := idx_digits D
  unfold validD at hV
  have HD := Lib.hid hD
  clear hD hDl
  by_cases ha : D.toList = []
  · have hno : ¬ ∃ z, NumL S.data.toList z := fun h => (hV.2 h).1 (hla.1 ha)
    have HNO := Lib.hid hno
    clear hno hV hla hls hid hsz
    go_enter Tryz.func62, Tryz.ntmps62
    go_wp2_with (first | (go_at_call 133; refine (Tryz.strings_TrimPrefix S _ _).mono ?_; rintro e w' ⟨rfl, rfl⟩; rw [show (ByteArray.mk #[45]).data.toList = [45] from rfl, HD.out]) | (go_at_call 134; refine (Tryz.strings_ContainsFunc_runes 135 #[] (enters_of Tryz.func135 (by kernel_rfl) rfl) noDig D _ (fun W x hx hb => (noDig_c x hx W).mono (by rintro e w' ⟨rfl, rfl⟩; exact ⟨rfl, 0, rfl⟩))).mono ?_; rintro e w' ⟨rfl, hb⟩; have HBL := Lib.hid hb; clear hb))
    go_ret
    exact ⟨⟨_, rfl, ⟨fun h => by simp at h, fun h => absurd h HNO.out⟩⟩, (by repeat (first | exact Below.refl _ _ | exact HB.out | (refine Below.alloc ?_ (by first | (simp; done) | (simp; omega)) _) | (refine Below.setCell ?_ (by first | (simp; done) | (simp; omega)) _) | refine Below.drew ?_ | refine below_drewN ?_ _))⟩
  · have hne : D.data.toList ≠ [] := fun h => ha (hla.2 h)
    have hpos : 0 < D.size := by rw [hsz]; exact List.length_pos_iff.2 hne
    by_cases hb : (200 : Int) < (D.size : Int)
    · have hno : ¬ ∃ z, NumL S.data.toList z := fun h => by have := (hV.2 h).2.1; omega
      have HNO := Lib.hid hno
      clear hno hV hla hls hid hsz hne
      go_enter Tryz.func62, Tryz.ntmps62
      go_wp2_with (first | (go_at_call 133; refine (Tryz.strings_TrimPrefix S _ _).mono ?_; rintro e w' ⟨rfl, rfl⟩; rw [show (ByteArray.mk #[45]).data.toList = [45] from rfl, HD.out]) | (go_at_call 134; refine (Tryz.strings_ContainsFunc_runes 135 #[] (enters_of Tryz.func135 (by kernel_rfl) rfl) noDig D _ (fun W x hx hb => (noDig_c x hx W).mono (by rintro e w' ⟨rfl, rfl⟩; exact ⟨rfl, 0, rfl⟩))).mono ?_; rintro e w' ⟨rfl, hb⟩; have HBL := Lib.hid hb; clear hb))
      go_ret
      exact ⟨⟨_, rfl, ⟨fun h => by simp at h, fun h => absurd h HNO.out⟩⟩, (by repeat (first | exact Below.refl _ _ | exact HB.out | (refine Below.alloc ?_ (by first | (simp; done) | (simp; omega)) _) | (refine Below.setCell ?_ (by first | (simp; done) | (simp; omega)) _) | refine Below.drew ?_ | refine below_drewN ?_ _))⟩
    · have hae : D.toList.isEmpty = false := by simpa using ha
      have hbd : decide ((200 : Int) < (D.size : Int)) = false := decide_eq_false hb
      have hhd : D.data.toList.head? = some (D[0]'hpos) := by
        have : 0 < D.data.toList.length := by omega
        rw [List.head?_eq_getElem?, List.getElem?_eq_getElem this]
        rfl
      by_cases hc : ((D[0]'hpos).toNat : Int) = 48
      · have h48n : (D[0]'hpos).toNat = 48 := by omega
        have h48 : D[0]'hpos = 48 := UInt8.toNat_inj.1 h48n
        by_cases hs : S.toList = [48]
        · have hsb : (S.toList == [48]) = true := by simp [hs]
          have hyes : (¬ 0 ≤ Lib.idxFunc noDig true D) ↔ ∃ z, NumL S.data.toList z := by
            rw [← hV, hid, Classical.not_not]
            exact ⟨fun h => ⟨hne, by omega, fun k => k.2 (hls.1 hs), h⟩, fun h => h.2.2.2⟩
          have HY := Lib.hid hyes
          clear hyes hV hla hls hid hsz hne hhd h48
          go_enter Tryz.func62, Tryz.ntmps62
          go_wp2_with (first | (go_at_call 133; refine (Tryz.strings_TrimPrefix S _ _).mono ?_; rintro e w' ⟨rfl, rfl⟩; rw [show (ByteArray.mk #[45]).data.toList = [45] from rfl, HD.out]) | (go_at_call 134; refine (Tryz.strings_ContainsFunc_runes 135 #[] (enters_of Tryz.func135 (by kernel_rfl) rfl) noDig D _ (fun W x hx hb => (noDig_c x hx W).mono (by rintro e w' ⟨rfl, rfl⟩; exact ⟨rfl, 0, rfl⟩))).mono ?_; rintro e w' ⟨rfl, hb⟩; have HBL := Lib.hid hb; clear hb))
          go_ret
          exact ⟨⟨_, rfl, by rw [← HY.out]; simp⟩, HBL.out⟩
        · have hsb : (S.toList == [48]) = false := by simp [hs]
          have hno : ¬ ∃ z, NumL S.data.toList z := fun h => (hV.2 h).2.2.1 ⟨by rw [hhd, h48], fun k => hs (hls.2 k)⟩
          have HNO := Lib.hid hno
          clear hno hV hla hls hid hsz hne hhd h48
          go_enter Tryz.func62, Tryz.ntmps62
          go_wp2_with (first | (go_at_call 133; refine (Tryz.strings_TrimPrefix S _ _).mono ?_; rintro e w' ⟨rfl, rfl⟩; rw [show (ByteArray.mk #[45]).data.toList = [45] from rfl, HD.out]) | (go_at_call 134; refine (Tryz.strings_ContainsFunc_runes 135 #[] (enters_of Tryz.func135 (by kernel_rfl) rfl) noDig D _ (fun W x hx hb => (noDig_c x hx W).mono (by rintro e w' ⟨rfl, rfl⟩; exact ⟨rfl, 0, rfl⟩))).mono ?_; rintro e w' ⟨rfl, hb⟩; have HBL := Lib.hid hb; clear hb))
          go_ret
          exact ⟨⟨_, rfl, ⟨fun h => by simp at h, fun h => absurd h HNO.out⟩⟩, (by repeat (first | exact Below.refl _ _ | exact HB.out | (refine Below.alloc ?_ (by first | (simp; done) | (simp; omega)) _) | (refine Below.setCell ?_ (by first | (simp; done) | (simp; omega)) _) | refine Below.drew ?_ | refine below_drewN ?_ _))⟩
      · have hcb : (((D[0]'hpos).toNat : Int) == 48) = false := by simpa using hc
        have hyes : (¬ 0 ≤ Lib.idxFunc noDig true D) ↔ ∃ z, NumL S.data.toList z := by
          rw [← hV, hid, Classical.not_not]
          refine ⟨fun h => ⟨hne, by omega, fun k => ?_, h⟩, fun h => h.2.2.2⟩
          rw [hhd] at k
          have := congrArg UInt8.toNat (Option.some.inj k.1)
          simp at this
          omega
        have HY := Lib.hid hyes
        clear hyes hV hla hls hid hsz hne hhd
        go_enter Tryz.func62, Tryz.ntmps62
        go_wp2_with (first | (go_at_call 133; refine (Tryz.strings_TrimPrefix S _ _).mono ?_; rintro e w' ⟨rfl, rfl⟩; rw [show (ByteArray.mk #[45]).data.toList = [45] from rfl, HD.out]) | (go_at_call 134; refine (Tryz.strings_ContainsFunc_runes 135 #[] (enters_of Tryz.func135 (by kernel_rfl) rfl) noDig D _ (fun W x hx hb => (noDig_c x hx W).mono (by rintro e w' ⟨rfl, rfl⟩; exact ⟨rfl, 0, rfl⟩))).mono ?_; rintro e w' ⟨rfl, hb⟩; have HBL := Lib.hid hb; clear hb))
        go_ret
        exact ⟨⟨_, rfl, by rw [← HY.out]; simp⟩, HBL.out⟩

end Go.Proofs.YtekbfommnmikbaaGreatDoor

namespace Go.Proofs.YtekbfommnmikbaaGreatDoor
set_option linter.unusedVariables false
set_option linter.unusedSimpArgs false
open Go.RowKit Go.Shelf Go.Proofs

end Go.Proofs.YtekbfommnmikbaaGreatDoor

namespace Go.Proofs.YtekbfommnmikbaaGreatDoor
set_option linter.unusedVariables false
set_option linter.unusedSimpArgs false
open Go.RowKit Go.Shelf Go.Proofs

/-- v is a slice of the strings l. -/
def Strs (w : World) (v : Value) (l : List ByteArray) : Prop := ∃ A c, v = .slice A l.length c ∧ ∀ j, j < l.length → ∃ a, A = some a ∧ w.cell? (a.add j) = some (.string (l[j]?.getD ⟨#[]⟩))
theorem Strs.below {w w' : World} {v : Value} {l : List ByteArray} (h : Strs w v l) (hb : Below w.heap.size w w') : Strs w' v l := by
  obtain ⟨A, c, e, h⟩ := h
  refine ⟨A, c, e, fun j hj => ?_⟩
  obtain ⟨a, e', hc⟩ := h j hj
  exact ⟨a, e', keep_cell hb hc⟩

/-- The cells of some wholes. -/
def whCells : List (Bool × Value) → List Value
  | [] => []
  | (b, p) :: l => .bool b :: p :: whCells l
/-- v is a slice of the wholes zs. -/
def Whs (w : World) (v : Value) (zs : List Int) : Prop := ∃ A c, v = .slice A zs.length c ∧ ∀ j, j < zs.length → ∃ a p, A = some ⟨a, 0, none⟩ ∧ w.cell? ⟨a, 2 * j, none⟩ = some (.bool (decide (zs[j]?.getD 0 < 0))) ∧ w.cell? ⟨a, 2 * j + 1, none⟩ = some p ∧ Dg 1000000000 w p (zs[j]?.getD 0).natAbs
theorem Whs.below {w w' : World} {v : Value} {zs : List Int} (h : Whs w v zs) (hb : Below w.heap.size w w') : Whs w' v zs := by
  obtain ⟨A, c, e, h⟩ := h
  refine ⟨A, c, e, fun j hj => ?_⟩
  obtain ⟨a, p, e', h1, h2, h3⟩ := h j hj
  exact ⟨a, p, e', keep_cell hb h1, keep_cell hb h2, h3.below hb⟩

/-- How a function over wholes ends. -/
inductive Out where
  | ok (v : Value)
  | err (k : Int)
/-- What with makes of it (z: the result type's zero value). -/
def Out.res (z : Value) : Out → Value
  | .ok v => .tuple #[v, .int .i64 0]
  | .err k => .tuple #[z, .int .i64 k]

/-- What has been read lies so in w: the list's own row, and the parts, none of them in that row. -/
structure Got (B : Nat) (w : World) (v : Value) (ps : List (Bool × Value)) (zs : List Int) : Prop where
  own : w.ownsRow B 136 2 v ps.length (whCells ps)
  len : ps.length = zs.length
  at_ : ∀ (j : Nat) (b : Bool) (p : Value), ps[j]? = some (b, p) → b = decide (zs[j]?.getD 0 < 0) ∧ Dg 1000000000 w p (zs[j]?.getD 0).natAbs ∧ (zs[j]?.getD 0 = 0 ∨ ∀ g, p.ownBlock = some g → g < w.heap.size ∧ v.ownBlock ≠ some g)

theorem Got.nil (B : Nat) (w : World) : Got B w (.slice none 0 0) [] [] := ⟨World.ownsRow_nil _ _ _ _, rfl, fun j b p h => by simp at h⟩

theorem Got.below {B : Nat} {w w' : World} {v : Value} {ps : List (Bool × Value)} {zs : List Int} (h : Got B w v ps zs) (hb : Below w.heap.size w w') : Got B w' v ps zs :=
  ⟨own_below h.own hb, h.len, fun j b p hj => by
    obtain ⟨h1, h2, h3⟩ := h.at_ j b p hj
    exact ⟨h1, h2.below hb, h3.imp id fun h3 g hg => ⟨Nat.lt_of_lt_of_le (h3 g hg).1 hb.size, (h3 g hg).2⟩⟩⟩

end Go.Proofs.YtekbfommnmikbaaGreatDoor

namespace Go.Proofs.YtekbfommnmikbaaGreatDoor
set_option linter.unusedVariables false
set_option linter.unusedSimpArgs false
open Go.RowKit Go.Shelf Go.Proofs

end Go.Proofs.YtekbfommnmikbaaGreatDoor

namespace Go.Proofs.YtekbfommnmikbaaGreatDoor
set_option linter.unusedVariables false
set_option linter.unusedSimpArgs false
open Go.RowKit Go.Shelf Go.Proofs

/-- The first whole of a list. -/
theorem Whs.first {w : World} {v : Value} {x : Int} {zs : List Int} (h : Whs w v (x :: zs)) : ∃ a c p, v = .slice (some ⟨a, 0, none⟩) (zs.length + 1) c ∧ w.cell? ⟨a, 0, none⟩ = some (.bool (decide (x < 0))) ∧ w.cell? ⟨a, 1, none⟩ = some p ∧ Dg 1000000000 w p x.natAbs := by
  obtain ⟨A, c, e, h⟩ := h
  obtain ⟨a, p, rfl, h1, h2, h3⟩ := h 0 (by simp)
  exact ⟨a, c, p, e, h1, h2, h3⟩

end Go.Proofs.YtekbfommnmikbaaGreatDoor

namespace Go.Proofs.YtekbfommnmikbaaGreatDoor
set_option linter.unusedVariables false
set_option linter.unusedSimpArgs false
open Go.RowKit Go.Shelf Go.Proofs

end Go.Proofs.YtekbfommnmikbaaGreatDoor

namespace Go.Proofs.YtekbfommnmikbaaGreatDoor
set_option linter.unusedVariables false
set_option linter.unusedSimpArgs false
open Go.RowKit Go.Shelf Go.Proofs

end Go.Proofs.YtekbfommnmikbaaGreatDoor

namespace Go.Proofs.YtekbfommnmikbaaGreatDoor
set_option linter.unusedVariables false
set_option linter.unusedSimpArgs false
open Go.RowKit Go.Shelf Go.Proofs

end Go.Proofs.YtekbfommnmikbaaGreatDoor
/- Package real: Print. -/
namespace Go.Proofs.YtekbfommnmikbaaGreatDoor
set_option linter.unusedVariables false
set_option linter.unusedSimpArgs false
open Go.RowKit Go.Shelf Go.Proofs
attribute [local go_sem ↓] Go.wp_at_zero Go.wp_at_succ

/-- The table that Itoa reads. -/
def P10 (w : World) : Prop := Lib.TabIs Tryz.prog w "internal/strconv.uint64pow10" .u64 Lib.pow10Tab
theorem P10.below {w w' : World} (h : P10 w) (hb : Below w.heap.size w w') : P10 w' := var_stay h hb
theorem itoaR_c (n : Int) (w : World) (h0 : -9223372036854775808 ≤ n) (h1 : n ≤ 9223372036854775807) (ht : P10 w) : Calls Tryz.prog 99 #[.int .i64 n] w fun e w' => e = .returned (.string ⟨(Lib.itoa n).toArray⟩) ∧ Below w.heap.size w w' := by
  refine (Tryz.strconv_Itoa n h0 h1 w ht).mono ?_
  rintro e w' ⟨rfl, k, os, rfl⟩
  exact ⟨rfl, Lib.below_grow _ w (Nat.le_refl _) k os⟩

/-- The digits without the zeros at the end. -/
def digL (m : Nat) : List UInt8 := Lib.trimRightB (Lib.itoa m) 48
def orL (l o : List UInt8) : List UInt8 := if l.isEmpty then o else l
def fillL (m : Nat) (k : Int) : List UInt8 := digL m ++ Lib.repeatL [48] (max 0 (k - (digL m).length)).toNat
/-- What is printed behind the sign. -/
def bodyL (m : Nat) (k : Int) : List UInt8 :=
  if 1 ≤ k ∧ k ≤ 15 then (fillL m k).take k.toNat ++ [46] ++ orL ((fillL m k).drop k.toNat) [48]
  else if -3 ≤ k ∧ k ≤ 0 then [48, 46] ++ Lib.repeatL [48] (-k).toNat ++ digL m
  else (digL m).take 1 ++ [46] ++ orL ((digL m).drop 1) [48] ++ [101] ++ Lib.itoa (k - 1)
def printL (m e : Int) : List UInt8 := if m = 0 then [48, 46, 48] else (if m < 0 then [45] else []) ++ bodyL m.natAbs (12 + e)
def printR (m e : Int) : Value := if ¬ RV m.natAbs e then .tuple #[.string ⟨#[]⟩, .int .i64 1] else .tuple #[.string ⟨(printL m e).toArray⟩, .int .i64 0]

set_option maxHeartbeats 1000000 in
theorem or_c (s o : ByteArray) (w : World) : Calls Tryz.prog 102 #[.string s, .string o] w fun e w' => e = .returned (.string (if s.data.toList.isEmpty then o else s)) ∧ w' = w := by
  rw [← ByteArray.toList_eq]
  by_cases h : s.toList.isEmpty = true
  · rw [if_pos h]
    go_enter Tryz.func102, Tryz.ntmps102
    go_wp2_with fail
    go_ret
    exact ⟨rfl, rfl⟩
  · have h' : s.toList.isEmpty = false := Bool.eq_false_iff.2 h
    rw [if_neg h]
    clear h
    go_enter Tryz.func102, Tryz.ntmps102
    go_wp2_with fail
    go_ret
    exact ⟨rfl, rfl⟩
theorem or_q (s o : ByteArray) (w : World) (n : Nat) : Calls Tryz.prog 102 #[.string s, .string o] (w.drewN n) fun e w' => e = .returned (.string (if s.data.toList.isEmpty then o else s)) ∧ ∃ m, w' = w.drewN m := Calls.quiet_of_same (or_c s o (w.drewN n))

theorem dropWhile_nil {α : Type} {p : α → Bool} : ∀ {l : List α}, l.dropWhile p = [] ↔ ∀ x ∈ l, p x = true
  | [] => by simp
  | a :: l => by
    rw [List.dropWhile_cons]
    by_cases h : p a = true
    · rw [if_pos h, dropWhile_nil]; simp [h]
    · rw [if_neg h]; simp [h]
/-- The digits: 1 to 12 of them, the last one not 0. -/
theorem digL_len {m : Nat} (h : 0 < m) (h2 : m < 1000000000000) : 0 < (digL m).length ∧ (digL m).length ≤ 12 := by
  have e : Lib.itoa (m : Int) = Lib.decDigits m := Lib.itoa_nonneg m
  unfold digL
  rw [e]
  constructor
  · refine List.length_pos_iff.2 fun h3 => ?_
    unfold Lib.trimRightB at h3
    have h4 := List.reverse_eq_nil_iff.1 h3
    rw [dropWhile_nil] at h4
    have h5 := decDigits_head m h
    have h6 := decDigits_ne m
    cases hd : Lib.decDigits m with
    | nil => exact h6 hd
    | cons b l =>
      rw [hd] at h4 h5
      have := h4 b (by simp)
      rw [beq_iff_eq] at this
      subst this
      exact h5 rfl
  · have h3 : (Lib.trimRightB (Lib.decDigits m) 48).length ≤ (Lib.decDigits m).length := by
      unfold Lib.trimRightB
      rw [List.length_reverse]
      have := (List.dropWhile_sublist (fun x => x == (48 : UInt8)) (l := (Lib.decDigits m).reverse)).length_le
      rwa [List.length_reverse] at this
    have h4 : (Lib.decDigits m).length ≤ 12 := by rw [Lib.decDigits_length]; exact (nDigits_le (by decide)).2 h2
    omega
theorem cat2 (a b : ByteArray) {i j : Nat} (h1 : a.size = i) (h2 : b.size = j) : ∃ c, a ++ b = c ∧ c.size = i + j ∧ c.data.toList = a.data.toList ++ b.data.toList := ⟨_, rfl, by rw [ByteArray.size_append, h1, h2], by rw [ByteArray.data_append, Array.toList_append]⟩
theorem cutl (a : ByteArray) {f : Nat} (q : Nat) (h : a.size = f) (hq : q ≤ f) : ∃ c, a.extract 0 q = c ∧ c.size = q ∧ c.data.toList = a.data.toList.take q := ⟨_, rfl, by rw [ByteArray.size_extract]; omega, by rw [ext_list]; simp⟩
theorem cutr (a : ByteArray) {f : Nat} (q : Nat) (h : a.size = f) (hq : q ≤ f) : ∃ c, a.extract q f = c ∧ c.size = f - q ∧ c.data.toList = a.data.toList.drop q := ⟨_, rfl, by rw [ByteArray.size_extract]; omega, by rw [ext_list, List.take_of_length_le (by rw [← h]; exact Nat.le_refl _)]⟩
theorem orc (a : ByteArray) {f : Nat} (h : a.size = f) : ∃ c, (if a.data.toList.isEmpty then (⟨#[48]⟩ : ByteArray) else a) = c ∧ c.size ≤ f + 1 ∧ c.data.toList = orL a.data.toList [48] := by
  refine ⟨_, rfl, ?_, ?_⟩
  · split
    · show 1 ≤ f + 1; omega
    · omega
  · unfold orL
    split <;> rfl
theorem str_eq {a b : ByteArray} (h : a.data.toList = b.data.toList) : a = b := ByteArray.ext (Array.ext' h)

set_option maxRecDepth 100000 in
set_option maxHeartbeats 4000000 in
theorem printR_ab (m e : Int) (w : World) (h0 : -9223372036854775808 ≤ m) (h1 : m ≤ 9223372036854775807) (ht : P10 w) (hab : ¬ (¬ (1 ≤ 12 + e ∧ 12 + e ≤ 15) ∧ ¬ (-3 ≤ 12 + e ∧ 12 + e ≤ 0))) :
    Calls Tryz.prog 29 #[.agg #[.int .i64 m, .int .i64 e]] w fun en w' => en = .returned (printR m e) ∧ Below w.heap.size w w' := by
  obtain ⟨W, hW, k0, hbel⟩ := bx1h w #[.int .i64 m, .int .i64 e] 23
  have HBEL := Lib.hid hbel
  have HT := Lib.hid (ht.below hbel)
  have c00 := cell_of_heap k0 0; have c01 := cell_of_heap k0 1
  simp at c00 c01
  have HV := Lib.hid (fun w' => validR_c m e w' h0 h1)
  clear k0 hbel ht
  by_cases h : RV m.natAbs e
  · rw [show decide (RV m.natAbs e) = true from decide_eq_true h] at HV
    have hnn : ¬ ¬ RV m.natAbs e := fun x => x h
    have hr : printR m e = .tuple #[.string ⟨(printL m e).toArray⟩, .int .i64 0] := by unfold printR; rw [if_neg hnn]
    rw [hr]
    clear hr
    by_cases m0 : m = 0
    · subst m0
      rw [show printL 0 e = [48, 46, 48] from rfl]
      clear hnn h
      go_enter Tryz.func29, Tryz.ntmps29
      go_wp2_with (go_at_call 33; (with_reducible refine (HV.out _).mono ?_); rintro en w2 ⟨rfl, hbz⟩; have c00 := keep_cell hbz c00; have c01 := keep_cell hbz c01; have HB := Lib.hid hbz; clear hbz)
      go_ret2
      exact ⟨rfl, belowT HBEL.out HB.out⟩
    obtain ⟨x0, x1, x2⟩ := RV_abs h
    have hmp : 0 < m.natAbs := by omega
    have hdl := digL_len hmp x0
    have hmm : -9223372036854775807 ≤ m := by omega
    have HS := Lib.hid (fun w' => size_c m w' hmm h1)
    obtain ⟨M, hM⟩ : ∃ M, m.natAbs = M := ⟨_, rfl⟩
    rw [hM] at HS hdl x0 hmp
    have hit : ByteArray.size ⟨(Lib.itoa (M : Int)).toArray⟩ ≤ 9223372036854775807 := by
      have := Lib.itoa_length_le (M : Int) (by omega) (by omega)
      show (Lib.itoa (M : Int)).toArray.size ≤ _
      rw [List.size_toArray]; omega
    have HIT := Lib.hid (fun w' (ht : P10 w') => itoaR_c (M : Int) w' (by omega) (by omega) ht)
    have HTR := Lib.hid (fun w' => Tryz.strings_TrimRight_one ⟨(Lib.itoa (M : Int)).toArray⟩ 48 (by decide) w' hit)
    obtain ⟨I, hI⟩ : ∃ I : ByteArray, ⟨(Lib.itoa (M : Int)).toArray⟩ = I := ⟨_, rfl⟩
    obtain ⟨D, hD⟩ : ∃ D : ByteArray, ⟨(digL M).toArray⟩ = D := ⟨_, rfl⟩
    have hdd : D.data.toList = digL M := by rw [← hD]
    have hds : D.size = (digL M).length := by rw [← hD]; rfl
    rw [hI] at HIT HTR
    rw [show (⟨(Lib.trimRightB I.data.toList 48).toArray⟩ : ByteArray) = D from by rw [← hD, ← hI]; rfl] at HTR
    rw [← hds] at hdl
    obtain ⟨n, hn⟩ : ∃ n, D.size = n := ⟨_, rfl⟩
    rw [hn] at hdl
    obtain ⟨d1, d2⟩ := hdl
    obtain ⟨k, hk⟩ : ∃ k, 12 + e = k := ⟨_, rfl⟩
    have HAB := Lib.hid (hk ▸ hab)
    clear hab
    have hk1 : -99 ≤ k := by omega
    have hk2 : k ≤ 100 := by omega
    obtain ⟨mi, hmi⟩ : ∃ mi : ByteArray, mi = (if m < 0 then ⟨#[45]⟩ else ⟨#[]⟩) := ⟨_, rfl⟩
    have HP : Hid (printL m e = mi.data.toList ++ bodyL M k) := by
      show _ = _
      unfold printL
      rw [if_neg m0, hM, hk, hmi]
      split <;> rfl
    have m0' : (m == 0) = false := by simp [m0]
    clear hnn h hI hD hM hmm hit
    have hmi2 : (m < 0 ∧ mi = ⟨#[45]⟩) ∨ (¬ m < 0 ∧ mi = ⟨#[]⟩) := by
      by_cases hm : m < 0
      · exact .inl ⟨hm, by rw [hmi, if_pos hm]⟩
      · exact .inr ⟨hm, by rw [hmi, if_neg hm]⟩
    clear hmi
    by_cases k1 : 1 ≤ k ∧ k ≤ 15
    · have hbd : bodyL M k = (fillL M k).take k.toNat ++ [46] ++ orL ((fillL M k).drop k.toNat) [48] := by unfold bodyL; rw [if_pos k1]
      obtain ⟨ka, kb⟩ := k1
      obtain ⟨q, rfl⟩ : ∃ q : Nat, k = (q : Int) := ⟨k.toNat, by omega⟩
      obtain ⟨c, hc⟩ : ∃ c : Nat, max 0 ((q : Int) - (n : Int)) = (c : Int) := ⟨(max 0 ((q : Int) - (n : Int))).toNat, by omega⟩
      have HRP := Lib.hid (fun w' => Tryz.strings_Repeat ⟨#[48]⟩ c w' (by omega) (by show 1 * c ≤ _; omega))
      obtain ⟨Z, hZ⟩ : ∃ Z : ByteArray, ⟨(Lib.repeatL [48] c).toArray⟩ = Z := ⟨_, rfl⟩
      rw [show (⟨(Lib.repeatL (ByteArray.mk #[48]).data.toList c).toArray⟩ : ByteArray) = Z from hZ] at HRP
      obtain ⟨F, hF⟩ : ∃ F : ByteArray, D ++ Z = F := ⟨_, rfl⟩
      have hFL : F.data.toList = fillL M q := by
        rw [← hF, ByteArray.data_append, Array.toList_append, hdd, ← hZ]
        unfold fillL
        rw [← hds, hn, hc, Int.toNat_natCast]
      have hFs : F.size = n + c := by rw [← hF, ByteArray.size_append, hn, ← hZ]; show n + (Lib.repeatL [48] c).toArray.size = _; rw [List.size_toArray, Lib.repeatL_length]; simp
      have HBD := Lib.hid hbd; have HFL := Lib.hid hFL
      have hzs : Z.size = c := by rw [← hZ]; show (Lib.repeatL [48] c).toArray.size = _; rw [List.size_toArray, Lib.repeatL_length]; simp
      have hc15 : c ≤ 15 := by omega
      obtain ⟨f, hf⟩ : ∃ f, F.size = f := ⟨_, rfl⟩
      have hf15 : f ≤ 27 := by omega
      have hqf : q ≤ f := by omega
      clear hbd hFL hZ hFs hdd hds
      obtain ⟨G, hG, hGs, hGl⟩ := cutl F q hf hqf
      obtain ⟨H, hH, hHs, hHl⟩ := cutr F q hf hqf
      obtain ⟨Rr, hRr, hRs, hRl⟩ := orc H hHs
      obtain ⟨rs, hrs⟩ : ∃ rs, Rr.size = rs := ⟨_, rfl⟩
      rw [hrs] at hRs
      obtain ⟨ms, hms⟩ : ∃ ms, mi.size = ms := ⟨_, rfl⟩
      have hms1 : ms ≤ 1 := by rcases hmi2 with ⟨-, rfl⟩ | ⟨-, rfl⟩ <;> (rw [← hms]; decide)
      obtain ⟨J1, hJ1, hs1, hl1⟩ := cat2 mi G hms hGs
      obtain ⟨J2, hJ2, hs2, hl2⟩ := cat2 J1 ⟨#[46]⟩ hs1 (show ByteArray.size ⟨#[46]⟩ = 1 from rfl)
      obtain ⟨J3, hJ3, hs3, hl3⟩ := cat2 J2 Rr hs2 hrs
      have HORQ := Lib.hid (fun (w' : World) (nn : Nat) => or_q H ⟨#[48]⟩ w' nn)
      rw [hRr] at HORQ
      have HEND : Hid ((⟨(printL m e).toArray⟩ : ByteArray) = J3) := by
        show _ = _
        apply str_eq
        rw [HP.out, HBD.out, hl3, hl2, hl1, hRl, hHl, hGl, HFL.out]
        simp
      clear hl1 hl2 hl3 hRl hHl hGl hRr
      rcases hmi2 with ⟨hm, rfl⟩ | ⟨hm, rfl⟩
      all_goals
        go_enter Tryz.func29, Tryz.ntmps29
        go_upto_region 12 with (first
          | (go_at_call 33; (with_reducible refine (HV.out _).mono ?_); rintro en w2 ⟨rfl, hbz⟩; have c00 := keep_cell hbz c00; have c01 := keep_cell hbz c01; have HB := Lib.hid hbz; clear hbz)
          | (go_at_call 100; (with_reducible refine (HS.out _).mono ?_); rintro en w3 ⟨rfl, rfl⟩)
          | (go_at_call 99; (with_reducible refine (HIT.out _ (HT.out.below HB.out)).mono ?_); rintro en w4 ⟨rfl, hbz⟩; have c00 := keep_cell hbz c00; have c01 := keep_cell hbz c01; have HB := Lib.hid (belowT HB.out hbz); clear hbz)
          | (go_at_call 98; (with_reducible refine (HTR.out _).mono ?_); rintro en w5 ⟨rfl, rfl⟩)
          | (go_at_call 101; (with_reducible refine (HRP.out _).mono ?_); rintro en w6 ⟨rfl, hbz⟩; have c00 := keep_cell hbz c00; have c01 := keep_cell hbz c01; have HB := Lib.hid (belowT HB.out hbz); clear hbz))
        go_quiet ((go_at_call 102; exact HORQ.out _ _))
        go_wp2_with fail
        rw [HEND.out]
        go_ret2
        exact ⟨rfl, belowT HBEL.out (below_drewN HB.out nq)⟩
    obtain ⟨ms, hms⟩ : ∃ ms, mi.size = ms := ⟨_, rfl⟩
    have hms1 : ms ≤ 1 := by rcases hmi2 with ⟨-, rfl⟩ | ⟨-, rfl⟩ <;> (rw [← hms]; decide)
    by_cases k2 : -3 ≤ k ∧ k ≤ 0
    · have hbd : bodyL M k = [48, 46] ++ Lib.repeatL [48] (-k).toNat ++ digL M := by unfold bodyL; rw [if_neg k1, if_pos k2]
      obtain ⟨ka, kb⟩ := k2
      have kc : ¬ 1 ≤ k := by omega
      obtain ⟨c, hc⟩ : ∃ c : Nat, -k = (c : Int) := ⟨(-k).toNat, by omega⟩
      have HRP := Lib.hid (fun w' => Tryz.strings_Repeat ⟨#[48]⟩ c w' (by omega) (by show 1 * c ≤ _; omega))
      obtain ⟨Z, hZ⟩ : ∃ Z : ByteArray, ⟨(Lib.repeatL [48] c).toArray⟩ = Z := ⟨_, rfl⟩
      rw [show (⟨(Lib.repeatL (ByteArray.mk #[48]).data.toList c).toArray⟩ : ByteArray) = Z from hZ] at HRP
      have hzl : Z.data.toList = Lib.repeatL [48] c := by rw [← hZ]
      have hzs : Z.size = c := by rw [← hZ]; show (Lib.repeatL [48] c).toArray.size = _; rw [List.size_toArray, Lib.repeatL_length]; simp
      have hc15 : c ≤ 15 := by omega
      obtain ⟨J1, hJ1, hs1, hl1⟩ := cat2 mi ⟨#[48, 46]⟩ hms (show ByteArray.size ⟨#[48, 46]⟩ = 2 from rfl)
      obtain ⟨J2, hJ2, hs2, hl2⟩ := cat2 J1 Z hs1 hzs
      obtain ⟨J3, hJ3, hs3, hl3⟩ := cat2 J2 D hs2 hn
      have HEND : Hid ((⟨(printL m e).toArray⟩ : ByteArray) = J3) := by
        show _ = _
        apply str_eq
        rw [HP.out, hbd, hl3, hl2, hl1, hzl, hdd, hc]
        simp
      clear hl1 hl2 hl3 hzl hZ hdd hds hbd k1
      rcases hmi2 with ⟨hm, rfl⟩ | ⟨hm, rfl⟩
      all_goals
        go_enter Tryz.func29, Tryz.ntmps29
        go_wp2_with (first
          | (go_at_call 33; (with_reducible refine (HV.out _).mono ?_); rintro en w2 ⟨rfl, hbz⟩; have c00 := keep_cell hbz c00; have c01 := keep_cell hbz c01; have HB := Lib.hid hbz; clear hbz)
          | (go_at_call 100; (with_reducible refine (HS.out _).mono ?_); rintro en w3 ⟨rfl, rfl⟩)
          | (go_at_call 99; (with_reducible refine (HIT.out _ (HT.out.below HB.out)).mono ?_); rintro en w4 ⟨rfl, hbz⟩; have c00 := keep_cell hbz c00; have c01 := keep_cell hbz c01; have HB := Lib.hid (belowT HB.out hbz); clear hbz)
          | (go_at_call 98; (with_reducible refine (HTR.out _).mono ?_); rintro en w5 ⟨rfl, rfl⟩)
          | (go_at_call 101; (with_reducible refine (HRP.out _).mono ?_); rintro en w6 ⟨rfl, hbz⟩; have c00 := keep_cell hbz c00; have c01 := keep_cell hbz c01; have HB := Lib.hid (belowT HB.out hbz); clear hbz))
        rw [HEND.out]
        go_ret2
        exact ⟨rfl, belowT HBEL.out HB.out⟩
    · exact absurd ⟨k1, k2⟩ HAB.out
  · rw [show decide (RV m.natAbs e) = false from decide_eq_false h] at HV
    have hr : printR m e = .tuple #[.string ⟨#[]⟩, .int .i64 1] := by unfold printR; rw [if_pos h]
    rw [hr]
    clear hr h
    go_enter Tryz.func29, Tryz.ntmps29
    go_wp2_with (go_at_call 33; (with_reducible refine (HV.out _).mono ?_); rintro en w2 ⟨rfl, hbz⟩; have c00 := keep_cell hbz c00; have c01 := keep_cell hbz c01; have HB := Lib.hid hbz; clear hbz)
    go_ret2
    exact ⟨rfl, belowT HBEL.out HB.out⟩
end Go.Proofs.YtekbfommnmikbaaGreatDoor
/- Plain words for texts of reals: what Parse takes, what Print writes. No program in sight. -/
namespace Go.Proofs.YtekbfommnmikbaaGreatDoor
set_option linter.unusedVariables false
set_option linter.unusedSimpArgs false

/-- A decimal digit. -/
def isD (b : UInt8) : Bool := decide (48 ≤ b.toNat) && decide (b.toNat ≤ 57)
/-- The exponent's digits; 100000 at most. -/
def expo (l : List UInt8) : Nat := l.foldl (fun n b => min 100000 (10 * n + (b.toNat - 48))) 0
/-- One byte is taken, if it is one of some. -/
def skipL (f : UInt8 → Bool) (l : List UInt8) : List UInt8 × List UInt8 := match l with
  | [] => ([], [])
  | b :: t => if f b then ([b], t) else ([], b :: t)
end Go.Proofs.YtekbfommnmikbaaGreatDoor
