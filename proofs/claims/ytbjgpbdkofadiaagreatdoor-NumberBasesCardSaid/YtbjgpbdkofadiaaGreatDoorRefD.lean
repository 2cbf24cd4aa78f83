/- The reference's integers: opposites, sums, order. -/
import Derived.Test.YtbjgpbdkofadiaaGreatDoorRefC
namespace Go.Proofs.YtbjgpbdkofadiaaGreatDoor
set_option linter.unusedVariables false
set_option linter.unusedSimpArgs false
open Go.RowKit

theorem boxes2h (w : World) (a0 a1 : Array Value) (t0 t1 : TypeId) : ∃ W, (w.alloc (.cells a0 t0)).alloc (.cells a1 t1) = W ∧ W.heap[w.heap.size]? = some (.cells a0 t0 (0, 0)) ∧ W.heap[w.heap.size + 1]? = some (.cells a1 t1 (0, 0)) ∧ Bel w.heap.size w W ∧ W.heap.size = w.heap.size + 1 + 1 :=
  ⟨_, rfl, heap_old _ (heap_alloc_new _ _), heap_new' _ _ _ (by simp), ((Bel.refl _ _ (Nat.le_refl _)).alloc _).alloc _, by simp⟩
/-- Two stores into a box above, the digits lying below. -/
theorem ri_old {w W2 : World} {B n : Nat} {p : Value} (b : Bool) {z0 z1 : Value} (h0 : W2.cell? ⟨B, 0, none⟩ = some z0) (h1 : W2.cell? ⟨B, 1, none⟩ = some z1) (hd : Dg 10 w p n) (hb : Below w.heap.size w W2) (hB : w.heap.size ≤ B) :
    ∃ F, (W2.setCell ⟨B, 0, none⟩ p).setCell ⟨B, 1, none⟩ (.bool b) = F ∧ F.cell? ⟨B, 0, none⟩ = some p ∧ F.cell? ⟨B, 1, none⟩ = some (.bool b) ∧ Dg 10 F p n ∧ Below w.heap.size w F :=
  ⟨_, rfl, set_other _ (by simp) (set_same _ h0), set_same _ (set_other _ (by simp) h1), hd.below ((hb.setCell (p := ⟨B, 0, none⟩) hB _).setCell (p := ⟨B, 1, none⟩) hB _), (hb.setCell (p := ⟨B, 0, none⟩) hB _).setCell (p := ⟨B, 1, none⟩) hB _⟩
/-- The length of the digits tells 0. -/
theorem len_pos (n : Nat) : decide (0 < n) = decide (0 < (dg 10 n).length) := by
  have h := dg_eq_nil (b := 10) (n := n) (by decide)
  rw [← List.length_eq_zero_iff] at h
  rw [Bool.eq_iff_iff, decide_eq_true_iff, decide_eq_true_iff]; omega
theorem opp_sign (x : Int) : (!decide (x < 0) && decide (0 < x.natAbs)) = decide (-x < 0) := by
  rw [Bool.eq_iff_iff]; simp; omega

set_option maxRecDepth 100000 in
set_option maxHeartbeats 2000000 in
theorem rminus_c (v1 : Value) (x : Int) (w : World) (h1 : Ri w v1 x) :
    Calls Tryz.prog 81 #[v1] w (RiP (-x) w) := by
  obtain ⟨p, rfl, hp⟩ := h1
  have hs := opp_sign x
  rw [len_pos] at hs
  obtain ⟨L, hL⟩ : ∃ L, (dg 10 x.natAbs).length = L := ⟨_, rfl⟩
  rw [hL] at hs
  obtain ⟨s, hss⟩ : ∃ s, decide (-x < 0) = s := ⟨_, rfl⟩
  rw [hss] at hs
  have HSS := Lib.hid hss
  obtain ⟨bx, hbx⟩ : ∃ b, decide (x < 0) = b := ⟨_, rfl⟩
  rw [hbx] at hs
  rw [hbx]
  obtain ⟨W, hW, hh0, hh1, hbel, hsz⟩ := boxes2h w #[p, .bool bx] #[.slice none 0 0, .bool false] 32 32
  have c00 := heap_box hh0 0; have c01 := heap_box hh0 1; have c10 := heap_box hh1 0; have c11 := heap_box hh1 1
  have f10 := free_of_heap hh1 0; have f11 := free_of_heap hh1 1
  simp at c00 c01 c10 c11
  have HP0 := Lib.hid hp
  have HBEL := Lib.hid hbel.to
  have HSZ := Lib.hid hsz
  have HS := Lib.hid hs
  obtain ⟨A1, n1, c1, hf⟩ := hp.form
  have hn1 : n1 = L := by obtain ⟨A, c, e, -, -, -⟩ := hp; rw [hf] at e; cases e; exact hL
  subst hf; subst hn1
  clear hp hh0 hh1 hbel hsz hbx hs hss hL
  go_enter Tryz.func81, Tryz.ntmps81
  go_wp2_with fail
  · obtain ⟨F, hF, r0, r1, hd, hbf⟩ := ri_old false c10 c11 HP0.out HBEL.out (by omega)
    rw [hF]
    refine bodyPost_ret (v := .agg #[.slice A1 n1 c1, .bool false]) (by simp [results, Tryz.results81, go_sem, r0, r1]) rfl ?_
    rename_i hbe
    have hsf := HS.out
    rw [hbe] at hsf
    exact ⟨_, rfl, ⟨_, by rw [HSS.out, ← hsf]; rfl, by rw [Int.natAbs_neg]; exact hd⟩, hbf⟩
  · obtain ⟨F, hF, r0, r1, hd, hbf⟩ := ri_old (decide (0 < n1)) c10 c11 HP0.out HBEL.out (by omega)
    rw [hF]
    refine bodyPost_ret (v := .agg #[.slice A1 n1 c1, .bool (decide (0 < n1))]) (by simp [results, Tryz.results81, go_sem, r0, r1]) rfl ?_
    rename_i hbe
    have hsf := HS.out
    rw [Bool.eq_false_iff.mpr hbe] at hsf
    exact ⟨_, rfl, ⟨_, by rw [HSS.out, ← hsf]; rfl, by rw [Int.natAbs_neg]; exact hd⟩, hbf⟩

theorem sgn_nonneg {a : Int} (h : 0 ≤ a) : 0 ≤ sgn a := by
  unfold sgn; split
  · omega
  · split <;> omega
theorem sum_same {x y : Int} (h : decide (x < 0) = decide (y < 0)) : (x + y).natAbs = x.natAbs + y.natAbs ∧ (decide (x < 0) && decide (0 < x.natAbs + y.natAbs)) = decide (x + y < 0) := by
  have h' : x < 0 ↔ y < 0 := by simpa using h
  refine ⟨by omega, ?_⟩
  rw [Bool.eq_iff_iff]; simp; omega
theorem sum_left {x y : Int} (h : decide (x < 0) ≠ decide (y < 0)) (hle : y.natAbs ≤ x.natAbs) : (x + y).natAbs = x.natAbs - y.natAbs ∧ (decide (x < 0) && decide (0 < x.natAbs - y.natAbs)) = decide (x + y < 0) := by
  have h' : ¬ (x < 0 ↔ y < 0) := by simpa using h
  refine ⟨by omega, ?_⟩
  rw [Bool.eq_iff_iff]; simp; omega
theorem sum_right {x y : Int} (h : decide (x < 0) ≠ decide (y < 0)) (hle : x.natAbs < y.natAbs) : (x + y).natAbs = y.natAbs - x.natAbs ∧ decide (y < 0) = decide (x + y < 0) := by
  have h' : ¬ (x < 0 ↔ y < 0) := by simpa using h
  refine ⟨by omega, ?_⟩
  rw [Bool.eq_iff_iff]; simp; omega

set_option maxRecDepth 100000 in
set_option maxHeartbeats 4000000 in
theorem rsum_c (v1 v2 : Value) (x y : Int) (w : World) (h1 : Ri w v1 x) (h2 : Ri w v2 y) (hm : (dg 10 x.natAbs).length ≤ 1000000) (hn : (dg 10 y.natAbs).length ≤ 1000000) :
    Calls Tryz.prog 47 #[v1, v2] w (RiP (x + y) w) := by
  obtain ⟨p, rfl, hp⟩ := h1
  obtain ⟨q, rfl, hq⟩ := h2
  have HM := Lib.hid (And.intro hm hn)
  have SA := Lib.hid (@sum_same x y)
  have SL := Lib.hid (@sum_left x y)
  have SR := Lib.hid (@sum_right x y)
  obtain ⟨bx, hbx⟩ : ∃ b, decide (x < 0) = b := ⟨_, rfl⟩
  obtain ⟨by_, hby⟩ : ∃ b, decide (y < 0) = b := ⟨_, rfl⟩
  rw [hbx, hby] at SA SL SR
  rw [hbx, hby]
  obtain ⟨W, hW, hh0, hh1, hh2, hbel, hsz⟩ := boxes3h w #[p, .bool bx] #[q, .bool by_] #[.slice none 0 0, .bool false] 32 32 32
  have c00 := heap_box hh0 0; have c01 := heap_box hh0 1; have c10 := heap_box hh1 0; have c11 := heap_box hh1 1; have c20 := heap_box hh2 0; have c21 := heap_box hh2 1
  have f20 := free_of_heap hh2 0; have f21 := free_of_heap hh2 1
  simp at c00 c01 c10 c11 c20 c21
  have HP := Lib.hid (hp.below hbel.to)
  have HQ := Lib.hid (hq.below hbel.to)
  have HBEL := Lib.hid hbel.to
  have HSZ := Lib.hid hsz
  obtain ⟨A1, n1, c1, rfl⟩ := hp.form
  obtain ⟨A2, n2, c2, rfl⟩ := hq.form
  clear hp hq hh0 hh1 hh2 hbel hsz hm hn hbx hby
  by_cases hs : bx = by_
  · obtain ⟨hab, hsg⟩ := SA.out hs
    subst hs
    obtain ⟨s, hss⟩ : ∃ s, decide (x + y < 0) = s := ⟨_, rfl⟩
    rw [hss] at hsg
    rw [len_pos] at hsg
    obtain ⟨L, hL⟩ : ∃ L, (dg 10 (x.natAbs + y.natAbs)).length = L := ⟨_, rfl⟩
    rw [hL] at hsg
    have HAB := Lib.hid hab
    have HSG := Lib.hid hsg
    have HSS := Lib.hid hss
    have HL := Lib.hid hL
    have hbb : (bx == bx) = true := by cases bx <;> rfl
    clear hab hsg hss hL SA SL SR
    go_enter Tryz.func47, Tryz.ntmps47
    go_wp2_with (go_at_call 90; (with_reducible refine (natAdd_c _ _ x.natAbs y.natAbs _ HP.out HQ.out HM.out.1 HM.out.2).mono ?_); rintro e W2 ⟨u, rfl, hu, hfu, hbz⟩; have HU := Lib.hid hu; have HFU := Lib.hid hfu; obtain ⟨A, c, hv, -, -, -⟩ := hu; rw [HL.out] at hv; subst hv; have f20 := keep_free' hbz c20 f20; have f21 := keep_free' hbz c21 f21; have c00 := keep_cell hbz c00; have c01 := keep_cell hbz c01; have c10 := keep_cell hbz c10; have c11 := keep_cell hbz c11; have c20 := keep_cell hbz c20; have c21 := keep_cell hbz c21; have HB2 := Lib.hid (below_then' HBEL.out hbz); clear hbz hfu)
    · obtain ⟨F, hF, r0, r1, hd, hbf⟩ := ri_set (decide (0 < L)) c20 c21 HU.out (HFU.out.mono (by have := HSZ.out; omega))
      rw [hF]
      refine bodyPost_ret (v := .agg #[.slice A L c, .bool (decide (0 < L))]) (by simp [results, Tryz.results47, go_sem, r0, r1]) rfl ?_
      rename_i hbe; have hsf := HSG.out; rw [hbe, Bool.true_and] at hsf
      exact ⟨_, rfl, ⟨_, by rw [HSS.out, hsf], by rw [HAB.out]; exact hd⟩, hbf _ _ (by omega) HB2.out⟩
    · obtain ⟨F, hF, r0, r1, hd, hbf⟩ := ri_set (false) c20 c21 HU.out (HFU.out.mono (by have := HSZ.out; omega))
      rw [hF]
      refine bodyPost_ret (v := .agg #[.slice A L c, .bool (false)]) (by simp [results, Tryz.results47, go_sem, r0, r1]) rfl ?_
      rename_i hbe; have hsf := HSG.out; rw [Bool.eq_false_iff.mpr hbe, Bool.false_and] at hsf
      exact ⟨_, rfl, ⟨_, by rw [HSS.out, hsf], by rw [HAB.out]; exact hd⟩, hbf _ _ (by omega) HB2.out⟩
  · have hbb : (bx == by_) = false := by simpa using hs
    by_cases hle : y.natAbs ≤ x.natAbs
    · obtain ⟨hab, hsg⟩ := SL.out hs hle
      obtain ⟨s, hss⟩ : ∃ s, decide (x + y < 0) = s := ⟨_, rfl⟩
      rw [hss] at hsg
      rw [len_pos] at hsg
      obtain ⟨L, hL⟩ : ∃ L, (dg 10 (x.natAbs - y.natAbs)).length = L := ⟨_, rfl⟩
      rw [hL] at hsg
      obtain ⟨g, hsn⟩ : ∃ g, sgn ((x.natAbs : Int) - (y.natAbs : Int)) = g := ⟨_, rfl⟩
      have hg0 : 0 ≤ g := by rw [← hsn]; exact sgn_nonneg (by omega)
      have HSN := Lib.hid hsn
      have HAB := Lib.hid hab
      have HSG := Lib.hid hsg
      have HSS := Lib.hid hss
      have HL := Lib.hid hL
      have HLE := Lib.hid hle
      clear hab hsg hss hL hle hsn SA SL SR
      go_enter Tryz.func47, Tryz.ntmps47
      go_wp2_with (first
        | (go_at_call 78; (with_reducible refine (natCmp_c _ _ x.natAbs y.natAbs _ HP.out HQ.out HM.out.1 HM.out.2).mono ?_); rintro e W1 ⟨he, hbz⟩; rw [HSN.out] at he; subst he; have f20 := keep_free' hbz c20 f20; have f21 := keep_free' hbz c21 f21; have c00 := keep_cell hbz c00; have c01 := keep_cell hbz c01; have c10 := keep_cell hbz c10; have c11 := keep_cell hbz c11; have c20 := keep_cell hbz c20; have c21 := keep_cell hbz c21; have HP1 := Lib.hid (HP.out.below hbz); have HQ1 := Lib.hid (HQ.out.below hbz); have HS1 := Lib.hid hbz.size; have HB1 := Lib.hid (below_then' HBEL.out hbz); clear hbz)
        | (go_at_call 99; (with_reducible refine (natSub_c _ _ x.natAbs y.natAbs _ HP1.out HQ1.out HM.out.1 HLE.out).mono ?_); rintro e W2 ⟨u, rfl, hu, hfu, hbz⟩; have HU := Lib.hid hu; have HFU := Lib.hid hfu; obtain ⟨A, c, hv, -, -, -⟩ := hu; rw [HL.out] at hv; subst hv; have f20 := keep_free' hbz c20 f20; have f21 := keep_free' hbz c21 f21; have c00 := keep_cell hbz c00; have c01 := keep_cell hbz c01; have c10 := keep_cell hbz c10; have c11 := keep_cell hbz c11; have c20 := keep_cell hbz c20; have c21 := keep_cell hbz c21; have HB2 := Lib.hid (below_then' HB1.out hbz); clear hbz hfu))
      · obtain ⟨F, hF, r0, r1, hd, hbf⟩ := ri_set (decide (0 < L)) c20 c21 HU.out (HFU.out.mono (by have := HSZ.out; have := HS1.out; omega))
        rw [hF]
        refine bodyPost_ret (v := .agg #[.slice A L c, .bool (decide (0 < L))]) (by simp [results, Tryz.results47, go_sem, r0, r1]) rfl ?_
        rename_i hbe; have hsf := HSG.out; rw [hbe, Bool.true_and] at hsf
        exact ⟨_, rfl, ⟨_, by rw [HSS.out, hsf], by rw [HAB.out]; exact hd⟩, hbf _ _ (by omega) HB2.out⟩
      · obtain ⟨F, hF, r0, r1, hd, hbf⟩ := ri_set (false) c20 c21 HU.out (HFU.out.mono (by have := HSZ.out; have := HS1.out; omega))
        rw [hF]
        refine bodyPost_ret (v := .agg #[.slice A L c, .bool (false)]) (by simp [results, Tryz.results47, go_sem, r0, r1]) rfl ?_
        rename_i hbe; have hsf := HSG.out; rw [Bool.eq_false_iff.mpr hbe, Bool.false_and] at hsf
        exact ⟨_, rfl, ⟨_, by rw [HSS.out, hsf], by rw [HAB.out]; exact hd⟩, hbf _ _ (by omega) HB2.out⟩
    · obtain ⟨hab, hsg⟩ := SR.out hs (by omega)
      obtain ⟨L, hL⟩ : ∃ L, (dg 10 (y.natAbs - x.natAbs)).length = L := ⟨_, rfl⟩
      obtain ⟨g, hsn⟩ : ∃ g, sgn ((x.natAbs : Int) - (y.natAbs : Int)) = g := ⟨_, rfl⟩
      have hg0 : g < 0 := by rw [← hsn, sgn_lt (by omega)]; decide
      have HSN := Lib.hid hsn
      have HAB := Lib.hid hab
      have HSS := Lib.hid hsg
      have HL := Lib.hid hL
      have HLE := Lib.hid (Nat.le_of_lt (Nat.lt_of_not_le hle))
      clear hab hsg hL hle hsn SA SL SR
      go_enter Tryz.func47, Tryz.ntmps47
      go_wp2_with ((go_at_call 78; (with_reducible refine (natCmp_c _ _ x.natAbs y.natAbs _ HP.out HQ.out HM.out.1 HM.out.2).mono ?_); rintro e W1 ⟨he, hbz⟩; rw [HSN.out] at he; subst he; have f20 := keep_free' hbz c20 f20; have f21 := keep_free' hbz c21 f21; have c00 := keep_cell hbz c00; have c01 := keep_cell hbz c01; have c10 := keep_cell hbz c10; have c11 := keep_cell hbz c11; have c20 := keep_cell hbz c20; have c21 := keep_cell hbz c21; have HP1 := Lib.hid (HP.out.below hbz); have HQ1 := Lib.hid (HQ.out.below hbz); have HS1 := Lib.hid hbz.size; have HB1 := Lib.hid (below_then' HBEL.out hbz); clear hbz))
      have HPD : Hid (Dg 10 W1.drew (.slice A1 n1 c1) x.natAbs) := HP1.out.drew
      have HQD : Hid (Dg 10 W1.drew (.slice A2 n2 c2) y.natAbs) := HQ1.out.drew
      have d10 : W1.drew.cell? ⟨w.heap.size + 1, 0, none⟩ = some (.slice A2 n2 c2) := c10
      have d11 : W1.drew.cell? ⟨w.heap.size + 1, 1, none⟩ = some (.bool by_) := c11
      have d20 : W1.drew.cell? ⟨w.heap.size + 1 + 1, 0, none⟩ = some (.slice none 0 0) := c20
      have d21 : W1.drew.cell? ⟨w.heap.size + 1 + 1, 1, none⟩ = some (.bool false) := c21
      have e20 : W1.drew.frozen? ⟨w.heap.size + 1 + 1, 0, none⟩ = false := f20
      have e21 : W1.drew.frozen? ⟨w.heap.size + 1 + 1, 1, none⟩ = false := f21
      have HBD : Hid (Below w.heap.size w W1.drew) := HB1.out.drew
      have HSD : Hid (W1.drew.heap.size = W1.heap.size) := rfl
      go_region_with (go_at_call 99; (with_reducible refine (natSub_c _ _ y.natAbs x.natAbs _ HQD.out HPD.out HM.out.2 HLE.out).mono ?_); rintro e W2 ⟨u, rfl, hu, hfu, hbz⟩; have HU := Lib.hid hu; have HFU := Lib.hid hfu; obtain ⟨A, c, hv, -, -, -⟩ := hu; rw [HL.out] at hv; subst hv; have c20 := keep_cell hbz d20; have c21 := keep_cell hbz d21; have c11 := keep_cell hbz d11; have f20 := keep_free' hbz d20 e20; have f21 := keep_free' hbz d21 e21; have HB2 := Lib.hid (below_then' HBD.out hbz); clear hbz hfu d10 d11 d20 d21 e20 e21)
      all_goals
        obtain ⟨F, hF, r0, r1, hd, hbf⟩ := ri_set by_ c20 c21 HU.out (HFU.out.mono (by have := HSZ.out; have := HS1.out; have := HSD.out; omega))
        rw [hF]
        clear hF c20 c21 c11 f20 f21
        go_wp2_with fail
        refine bodyPost_ret (v := .agg #[.slice A L c, .bool by_]) (by simp [results, Tryz.results47, go_sem, r0, r1]) rfl ?_
        exact ⟨_, rfl, ⟨_, by rw [← HSS.out], by rw [HAB.out]; exact hd⟩, hbf _ _ (by omega) HB2.out⟩

end Go.Proofs.YtbjgpbdkofadiaaGreatDoor
