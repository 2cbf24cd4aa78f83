/- Integers of any size: floor. -/
import Derived.Test.YtbjgpbdkofadiaaGreatDoorWhole4
namespace Go.Proofs.YtbjgpbdkofadiaaGreatDoor
set_option linter.unusedVariables false
set_option linter.unusedSimpArgs false
open Go.RowKit
attribute [local go_sem] max2_int min2_int max_two min_two

theorem WhN.form {k : Nat} {w : World} {v : Value} {z : Int} (h : WhN k w v z) : ∃ b A n c, v = .agg #[.bool b, .slice A n c] ∧ b = decide (z < 0) ∧ n = (dg 1000000000 z.natAbs).length := by
  obtain ⟨p, rfl, ⟨A, c, rfl, _⟩, _⟩ := h
  exact ⟨_, _, _, _, rfl, rfl, rfl⟩

theorem fmod_neg_bound (x : Int) {y : Int} (hy : y < 0) : y < x.fmod y ∧ x.fmod y ≤ 0 := by
  have h := Int.fmod_nonneg_of_pos (-x) (show 0 < -y by omega)
  have h2 := Int.fmod_lt_of_pos (-x) (show 0 < -y by omega)
  have e : (-x).fmod (-y) = -(x.fmod y) := by
    rw [Int.fmod_def, Int.fmod_def, Int.neg_fdiv_neg]
    rw [Int.neg_mul]; omega
  omega

theorem fdiv_same {x y : Int} (hy : y ≠ 0) (h : x.tmod y = 0 ∨ (x.tmod y < 0 ↔ y < 0)) : x.fdiv y = x.tdiv y ∧ x.fmod y = x.tmod y := by
  have e1 := Int.mul_tdiv_add_tmod x y
  have e2 := Int.mul_fdiv_add_fmod x y
  have b1 : (x.tmod y).natAbs < y.natAbs := by rw [Int.natAbs_tmod]; exact Nat.mod_lt _ (by omega)
  have key : x.fdiv y = x.tdiv y := by
    rcases Int.lt_or_le 0 y with h0 | h0
    · have c1 := Int.fmod_nonneg_of_pos x h0
      have c2 := Int.fmod_lt_of_pos x h0
      have c3 : 0 ≤ x.tmod y := by
        rcases h with h | h
        · omega
        · rcases Int.lt_or_le (x.tmod y) 0 with k | k
          · have := h.1 k; omega
          · exact k
      have d1 : y * (x.fdiv y - x.tdiv y) = x.tmod y - x.fmod y := by rw [Int.mul_sub]; omega
      rcases Int.lt_trichotomy (x.fdiv y - x.tdiv y) 0 with k | k | k
      · have : y * (x.fdiv y - x.tdiv y) ≤ y * (-1) := Int.mul_le_mul_of_nonneg_left (by omega) (by omega)
        omega
      · omega
      · have : y * 1 ≤ y * (x.fdiv y - x.tdiv y) := Int.mul_le_mul_of_nonneg_left (by omega) (by omega)
        omega
    · have h0' : y < 0 := by omega
      have c1 := fmod_neg_bound x h0'
      have c3 : x.tmod y ≤ 0 := by
        rcases h with h | h
        · omega
        · have := h.2 h0'; omega
      have d1 : (-y) * (x.fdiv y - x.tdiv y) = x.fmod y - x.tmod y := by rw [Int.neg_mul, Int.mul_sub]; omega
      rcases Int.lt_trichotomy (x.fdiv y - x.tdiv y) 0 with k | k | k
      · have : (-y) * (x.fdiv y - x.tdiv y) ≤ (-y) * (-1) := Int.mul_le_mul_of_nonneg_left (by omega) (by omega)
        omega
      · omega
      · have : (-y) * 1 ≤ (-y) * (x.fdiv y - x.tdiv y) := Int.mul_le_mul_of_nonneg_left (by omega) (by omega)
        omega
  refine ⟨key, ?_⟩
  rw [key] at e2
  omega

theorem fdiv_diff {x y : Int} (hy : y ≠ 0) (h0 : x.tmod y ≠ 0) (h : ¬ (x.tmod y < 0 ↔ y < 0)) : x.fdiv y = x.tdiv y + -1 ∧ x.fmod y = x.tmod y + y := by
  have e1 := Int.mul_tdiv_add_tmod x y
  have e2 := Int.mul_fdiv_add_fmod x y
  have b1 : (x.tmod y).natAbs < y.natAbs := by rw [Int.natAbs_tmod]; exact Nat.mod_lt _ (by omega)
  have key : x.fdiv y = x.tdiv y + -1 := by
    rcases Int.lt_or_le 0 y with k0 | k0
    · have c1 := Int.fmod_nonneg_of_pos x k0
      have c2 := Int.fmod_lt_of_pos x k0
      have c3 : x.tmod y < 0 := by
        rcases Int.lt_or_le (x.tmod y) 0 with k | k
        · exact k
        · exact absurd ⟨fun a => by omega, fun a => by omega⟩ h
      have d1 : y * (x.fdiv y - x.tdiv y + 1) = x.tmod y + y - x.fmod y := by rw [Int.mul_add, Int.mul_sub, Int.mul_one]; omega
      rcases Int.lt_trichotomy (x.fdiv y - x.tdiv y + 1) 0 with k | k | k
      · have : y * (x.fdiv y - x.tdiv y + 1) ≤ y * (-1) := Int.mul_le_mul_of_nonneg_left (by omega) (by omega)
        omega
      · omega
      · have : y * 1 ≤ y * (x.fdiv y - x.tdiv y + 1) := Int.mul_le_mul_of_nonneg_left (by omega) (by omega)
        omega
    · have h0' : y < 0 := by omega
      have c1 := fmod_neg_bound x h0'
      have c3 : 0 < x.tmod y := by
        rcases Int.lt_or_le (x.tmod y) 0 with k | k
        · exact absurd ⟨fun a => h0', fun a => k⟩ h
        · omega
      have d1 : (-y) * (x.fdiv y - x.tdiv y + 1) = x.fmod y - x.tmod y - y := by rw [Int.neg_mul, Int.mul_add, Int.mul_sub, Int.mul_one]; omega
      rcases Int.lt_trichotomy (x.fdiv y - x.tdiv y + 1) 0 with k | k | k
      · have : (-y) * (x.fdiv y - x.tdiv y + 1) ≤ (-y) * (-1) := Int.mul_le_mul_of_nonneg_left (by omega) (by omega)
        omega
      · omega
      · have : (-y) * 1 ≤ (-y) * (x.fdiv y - x.tdiv y + 1) := Int.mul_le_mul_of_nonneg_left (by omega) (by omega)
        omega
  refine ⟨key, ?_⟩
  rw [key, Int.mul_add] at e2
  omega

theorem WhN.parts {k : Nat} {w : World} {b : Bool} {p : Value} {z : Int} (h : WhN k w (.agg #[.bool b, p]) z) : Dg 1000000000 w p z.natAbs ∧ FromB k p ∧ b = decide (z < 0) := by
  obtain ⟨p', e, h1, h2⟩ := h
  simp only [Value.agg.injEq, Array.mk.injEq, List.cons.injEq, Value.bool.injEq, and_true] at e
  obtain ⟨rfl, rfl⟩ := e
  exact ⟨h1, h2, rfl⟩

set_option maxHeartbeats 1000000 in
set_option maxRecDepth 100000 in
theorem floor_same (v1 v2 : Value) (x y : Int) (w : World) (h1 : Wh w v1 x) (h2 : Wh w v2 y) (hy : y ≠ 0) (hm : (dg 1000000000 x.natAbs).length ≤ 999999) (hn : (dg 1000000000 y.natAbs).length ≤ 999999) (hc : x.tmod y ≠ 0 ∧ (x.tmod y < 0 ↔ y < 0)) :
    Calls Tryz.prog 66 #[v1, v2] w (TwoP (x.tdiv y) (x.tmod y) w) := by
  have H1 := Lib.hid h1
  have H2 := Lib.hid h2
  have HY := Lib.hid hy
  have hm6 := Lib.hid (Nat.le_trans hm (show 999999 ≤ 1000000 by decide))
  obtain ⟨p, rfl, hp⟩ := h1
  obtain ⟨q, rfl, hq⟩ := h2
  clear hp hq hy
  generalize hbx : decide (x < 0) = bx at *
  generalize hby : decide (y < 0) = by_ at *
  have HC : Hid (∀ bv nv, bv = decide (x.tmod y < 0) → nv = (dg 1000000000 (x.tmod y).natAbs).length → 0 < nv ∧ (bv == by_) = true) := by
    intro bv nv h1 h2
    refine ⟨?_, ?_⟩
    · rw [h2, Nat.pos_iff_ne_zero, ne_eq, List.length_eq_zero_iff, dg_eq_nil (by decide)]; omega
    · rw [h1, ← hby]; simpa using hc.2
  clear hbx hby
  go_enter Tryz.func66, Tryz.ntmps66
  go_wp2_with fail
  obtain ⟨W, hW, k0, k1, k2, k3, f0, f1, f2, f3, hbel, hsz⟩ := boxes4 w #[.bool bx, p] #[.bool by_, q] #[.bool false, .slice none 0 0] #[.bool false, .slice none 0 0] 72 72 72 72
  rw [hW]
  have c00 := k0 0; have c01 := k0 1; have c10 := k1 0; have c11 := k1 1; have c20 := k2 0; have c21 := k2 1; have c30 := k3 0; have c31 := k3 1; have f20 := f2 0; have f21 := f2 1; have f30 := f3 0; have f31 := f3 1
  simp at c00 c01 c10 c11 c20 c21 c30 c31
  clear k0 k1 k2 k3 f0 f1 f2 f3 hW
  go_wp2_with (go_at_call 65; refine (quo_c _ _ x y _ (H1.out.below hbel.to) (H2.out.below hbel.to) HY.out hm6.out hn).mono ?_; rintro e W2 ⟨u, v, rfl, hu, hv, hbz⟩; have HU := Lib.hid hu; have HV := Lib.hid hv; obtain ⟨bu, Au, nu, cu, rfl, hbu, hnu⟩ := hu.form; obtain ⟨bv, Av, nv, cv, rfl, hbv, hnv⟩ := hv.form; have hcase := HC.out bv nv hbv hnv; clear hbu hnu hbv hnv hu hv; obtain ⟨W3, hW3, k0, k1, f0, f1, hb3, hs3⟩ := boxes2 W2 #[.bool bu, .slice Au nu cu] #[.bool bv, .slice Av nv cv] 72 72; have d00 := k0 0; have d01 := k0 1; have d10 := k1 0; have d11 := k1 1; have hb23 := hb3.to; have e10 := keep_cell hb23 (keep_cell hbz c10); have e11 := keep_cell hb23 (keep_cell hbz c11); have e20 := keep_cell hb23 (keep_cell hbz c20); have e21 := keep_cell hb23 (keep_cell hbz c21); have e30 := keep_cell hb23 (keep_cell hbz c30); have e31 := keep_cell hb23 (keep_cell hbz c31); have i20 := keep_free' hb23 (keep_cell hbz c20) (keep_free' hbz c20 f20); have i21 := keep_free' hb23 (keep_cell hbz c21) (keep_free' hbz c21 f21); have i30 := keep_free' hb23 (keep_cell hbz c30) (keep_free' hbz c30 f30); have i31 := keep_free' hb23 (keep_cell hbz c31) (keep_free' hbz c31 f31); simp at d00 d01 d10 d11; have HBL := Lib.hid ((hbel.call hbz).call hb23); have HB23 := Lib.hid hb23; have HS4 : Hid (W.heap.size = w.heap.size + 4) := hsz; have hs2 := hbz.size; clear k0 k1 f0 f1 hbz c00 c01 c10 c11 c20 c21 c30 c31 f20 f21 f30 f31 hb3 hb23)
  obtain ⟨pu1, pu2, pu3⟩ := HU.out.parts
  obtain ⟨pv1, pv2, pv3⟩ := HV.out.parts
  rw [HS4.out] at pu2 pv2
  have hqs : QS w (.slice Au nu cu) (.slice Av nv cv) (x.tdiv y).natAbs (x.tmod y).natAbs W3 := ⟨⟨_, e20⟩, ⟨_, e21⟩, ⟨_, e30⟩, ⟨_, e31⟩, i20, i21, i30, i31, pu1.below HB23.out, pv1.below HB23.out, pu2, pv2, HBL.out⟩
  have HQS := Lib.hid hqs
  have HPU := Lib.hid (And.intro pu3 pv3)
  clear pu1 pu2 pu3 pv1 pv2 pv3 hqs e10 e11
  go_region
  all_goals
    go_wp2
    obtain ⟨F, hF, r0, r1, r2, r3, hqf⟩ := qs_read HQS.out (.bool bu) (.slice Au nu cu) (.bool bv) (.slice Av nv cv)
    rw [hF]
    refine bodyPost_ret (v := .tuple #[.agg #[.bool bu, .slice Au nu cu], .agg #[.bool bv, .slice Av nv cv]]) (by simp [results, Tryz.results66, go_sem, r0, r1, r2, r3]) rfl ?_
    exact ⟨_, _, rfl, ⟨.slice Au nu cu, by rw [HPU.out.1], hqf.drew.hu, hqf.fu.mono (by omega)⟩, ⟨.slice Av nv cv, by rw [HPU.out.2], hqf.drew.hv, hqf.fv.mono (by omega)⟩, hqf.drew.bel.to⟩

set_option maxHeartbeats 1000000 in
set_option maxRecDepth 100000 in
theorem floor_zero (v1 v2 : Value) (x y : Int) (w : World) (h1 : Wh w v1 x) (h2 : Wh w v2 y) (hy : y ≠ 0) (hm : (dg 1000000000 x.natAbs).length ≤ 999999) (hn : (dg 1000000000 y.natAbs).length ≤ 999999) (hc : x.tmod y = 0) :
    Calls Tryz.prog 66 #[v1, v2] w (TwoP (x.tdiv y) (x.tmod y) w) := by
  have H1 := Lib.hid h1
  have H2 := Lib.hid h2
  have HY := Lib.hid hy
  have hm6 := Lib.hid (Nat.le_trans hm (show 999999 ≤ 1000000 by decide))
  obtain ⟨p, rfl, hp⟩ := h1
  obtain ⟨q, rfl, hq⟩ := h2
  clear hp hq hy
  generalize hbx : decide (x < 0) = bx at *
  generalize hby : decide (y < 0) = by_ at *
  have HC : Hid (∀ bv nv, bv = decide (x.tmod y < 0) → nv = (dg 1000000000 (x.tmod y).natAbs).length → ¬ 0 < nv ∧ ¬ (0 : Int) < (nv : Int)) := by
    intro bv nv h1 h2
    have : nv = 0 := by rw [h2, hc]; simp [dg_zero]
    omega
  clear hbx hby
  go_enter Tryz.func66, Tryz.ntmps66
  go_wp2_with fail
  obtain ⟨W, hW, k0, k1, k2, k3, f0, f1, f2, f3, hbel, hsz⟩ := boxes4 w #[.bool bx, p] #[.bool by_, q] #[.bool false, .slice none 0 0] #[.bool false, .slice none 0 0] 72 72 72 72
  rw [hW]
  have c00 := k0 0; have c01 := k0 1; have c10 := k1 0; have c11 := k1 1; have c20 := k2 0; have c21 := k2 1; have c30 := k3 0; have c31 := k3 1; have f20 := f2 0; have f21 := f2 1; have f30 := f3 0; have f31 := f3 1
  simp at c00 c01 c10 c11 c20 c21 c30 c31
  clear k0 k1 k2 k3 f0 f1 f2 f3 hW
  go_wp2_with (go_at_call 65; refine (quo_c _ _ x y _ (H1.out.below hbel.to) (H2.out.below hbel.to) HY.out hm6.out hn).mono ?_; rintro e W2 ⟨u, v, rfl, hu, hv, hbz⟩; have HU := Lib.hid hu; have HV := Lib.hid hv; obtain ⟨bu, Au, nu, cu, rfl, hbu, hnu⟩ := hu.form; obtain ⟨bv, Av, nv, cv, rfl, hbv, hnv⟩ := hv.form; have hcase := HC.out bv nv hbv hnv; clear hbu hnu hbv hnv hu hv; obtain ⟨W3, hW3, k0, k1, f0, f1, hb3, hs3⟩ := boxes2 W2 #[.bool bu, .slice Au nu cu] #[.bool bv, .slice Av nv cv] 72 72; have d00 := k0 0; have d01 := k0 1; have d10 := k1 0; have d11 := k1 1; have hb23 := hb3.to; have e10 := keep_cell hb23 (keep_cell hbz c10); have e11 := keep_cell hb23 (keep_cell hbz c11); have e20 := keep_cell hb23 (keep_cell hbz c20); have e21 := keep_cell hb23 (keep_cell hbz c21); have e30 := keep_cell hb23 (keep_cell hbz c30); have e31 := keep_cell hb23 (keep_cell hbz c31); have i20 := keep_free' hb23 (keep_cell hbz c20) (keep_free' hbz c20 f20); have i21 := keep_free' hb23 (keep_cell hbz c21) (keep_free' hbz c21 f21); have i30 := keep_free' hb23 (keep_cell hbz c30) (keep_free' hbz c30 f30); have i31 := keep_free' hb23 (keep_cell hbz c31) (keep_free' hbz c31 f31); simp at d00 d01 d10 d11; have HBL := Lib.hid ((hbel.call hbz).call hb23); have HB23 := Lib.hid hb23; have HS4 : Hid (W.heap.size = w.heap.size + 4) := hsz; have hs2 := hbz.size; clear k0 k1 f0 f1 hbz c00 c01 c10 c11 c20 c21 c30 c31 f20 f21 f30 f31 hb3 hb23)
  obtain ⟨pu1, pu2, pu3⟩ := HU.out.parts
  obtain ⟨pv1, pv2, pv3⟩ := HV.out.parts
  rw [HS4.out] at pu2 pv2
  have hqs : QS w (.slice Au nu cu) (.slice Av nv cv) (x.tdiv y).natAbs (x.tmod y).natAbs W3 := ⟨⟨_, e20⟩, ⟨_, e21⟩, ⟨_, e30⟩, ⟨_, e31⟩, i20, i21, i30, i31, pu1.below HB23.out, pv1.below HB23.out, pu2, pv2, HBL.out⟩
  have HQS := Lib.hid hqs
  have HPU := Lib.hid (And.intro pu3 pv3)
  clear pu1 pu2 pu3 pv1 pv2 pv3 hqs e10 e11
  go_region
  all_goals
    go_wp2
    obtain ⟨F, hF, r0, r1, r2, r3, hqf⟩ := qs_read HQS.out (.bool bu) (.slice Au nu cu) (.bool bv) (.slice Av nv cv)
    rw [hF]
    refine bodyPost_ret (v := .tuple #[.agg #[.bool bu, .slice Au nu cu], .agg #[.bool bv, .slice Av nv cv]]) (by simp [results, Tryz.results66, go_sem, r0, r1, r2, r3]) rfl ?_
    exact ⟨_, _, rfl, ⟨.slice Au nu cu, by rw [HPU.out.1], hqf.drew.hu, hqf.fu.mono (by omega)⟩, ⟨.slice Av nv cv, by rw [HPU.out.2], hqf.drew.hv, hqf.fv.mono (by omega)⟩, hqf.drew.bel.to⟩

/-- What stands while floor's sums are made. -/
structure FS (w : World) (a b c : Value) (x y z : Int) (W : World) : Prop where
  s20 : ∃ z, W.cell? ⟨w.heap.size + 1 + 1, 0, none⟩ = some z
  s21 : ∃ z, W.cell? ⟨w.heap.size + 1 + 1, 1, none⟩ = some z
  s30 : ∃ z, W.cell? ⟨w.heap.size + 1 + 1 + 1, 0, none⟩ = some z
  s31 : ∃ z, W.cell? ⟨w.heap.size + 1 + 1 + 1, 1, none⟩ = some z
  g20 : W.frozen? ⟨w.heap.size + 1 + 1, 0, none⟩ = false
  g21 : W.frozen? ⟨w.heap.size + 1 + 1, 1, none⟩ = false
  g30 : W.frozen? ⟨w.heap.size + 1 + 1 + 1, 0, none⟩ = false
  g31 : W.frozen? ⟨w.heap.size + 1 + 1 + 1, 1, none⟩ = false
  ha : Wh W a x
  hb : Wh W b y
  hc : Wh W c z
  ka : WhN (w.heap.size + 4) W a x
  kb : WhN (w.heap.size + 4) W b y
  old : Wh w c z
  bel : Bel w.heap.size w W
theorem FS.call {w : World} {a b c : Value} {x y z : Int} {W W' : World} (h : FS w a b c x y z W) (hb : Below W.heap.size W W') : FS w a b c x y z W' := by
  obtain ⟨⟨_, ha⟩, ⟨_, hb'⟩, ⟨_, hc⟩, ⟨_, hd⟩, g1, g2, g3, g4, h1, h2, h3, k1, k2, ho, hbel⟩ := h
  exact ⟨⟨_, keep_cell hb ha⟩, ⟨_, keep_cell hb hb'⟩, ⟨_, keep_cell hb hc⟩, ⟨_, keep_cell hb hd⟩, keep_free' hb ha g1, keep_free' hb hb' g2, keep_free' hb hc g3, keep_free' hb hd g4, h1.below hb, h2.below hb, h3.below hb, k1.below hb, k2.below hb, ho, hbel.call hb⟩
theorem FS.drew {w : World} {a b c : Value} {x y z : Int} {W : World} (h : FS w a b c x y z W) : FS w a b c x y z W.drew := h.call (Below.refl _ _).drew
theorem FS.alloc {w : World} {a b c : Value} {x y z : Int} {W : World} (h : FS w a b c x y z W) (o : Obj) : FS w a b c x y z (W.alloc o) := h.call ((Below.refl _ _).alloc (Nat.le_refl _) _)
theorem FS.set {w : World} {a b c : Value} {x y z : Int} {W : World} (h : FS w a b c x y z W) (k i : Nat) (hk : w.heap.size ≤ k ∧ k < w.heap.size + 4) (v : Value) : FS w a b c x y z (W.setCell ⟨k, i, none⟩ v) := by
  obtain ⟨ha, hb', hc, hd, g1, g2, g3, g4, h1, h2, h3, k1, k2, ho, hbel⟩ := h
  have hbel' := hbel.set (a := ⟨k, i, none⟩) v hk.1
  exact ⟨some_set' ha, some_set' hb', some_set' hc, some_set' hd, by simpa using g1, by simpa using g2, by simpa using g3, by simpa using g4, (k1.set hk.2 _).wh, (k2.set hk.2 _).wh, ho.below hbel'.to, k1.set hk.2 _, k2.set hk.2 _, ho, hbel'⟩
theorem FS.set2 {w : World} {a b c : Value} {x y z : Int} {W : World} (h : FS w a b c x y z W) (u v : Value) : FS w a b c x y z ((W.setCell ⟨w.heap.size + 1 + 1, 0, none⟩ u).setCell ⟨w.heap.size + 1 + 1, 1, none⟩ v) :=
  (h.set _ _ (by omega) _).set _ _ (by omega) _
theorem FS.set3 {w : World} {a b c : Value} {x y z : Int} {W : World} (h : FS w a b c x y z W) (u v : Value) : FS w a b c x y z ((W.setCell ⟨w.heap.size + 1 + 1 + 1, 0, none⟩ u).setCell ⟨w.heap.size + 1 + 1 + 1, 1, none⟩ v) :=
  (h.set _ _ (by omega) _).set _ _ (by omega) _
theorem fs_read {w : World} {u v c : Value} {x y z : Int} {W : World} (h : FS w u v c x y z W) (a b c' d : Value) : ∃ F, (((W.setCell ⟨w.heap.size + 1 + 1, 0, none⟩ a).setCell ⟨w.heap.size + 1 + 1, 1, none⟩ b).setCell ⟨w.heap.size + 1 + 1 + 1, 0, none⟩ c').setCell ⟨w.heap.size + 1 + 1 + 1, 1, none⟩ d = F ∧
    F.cell? ⟨w.heap.size + 1 + 1, 0, none⟩ = some a ∧ F.cell? ⟨w.heap.size + 1 + 1, 1, none⟩ = some b ∧ F.cell? ⟨w.heap.size + 1 + 1 + 1, 0, none⟩ = some c' ∧ F.cell? ⟨w.heap.size + 1 + 1 + 1, 1, none⟩ = some d ∧ Bel w.heap.size w F ∧ (∀ v' z', WhN (w.heap.size + 4) W v' z' → WhN (w.heap.size + 4) F v' z') := by
  obtain ⟨z0, h0⟩ := h.s20
  obtain ⟨z1, h1⟩ := h.s21
  obtain ⟨z2, h2⟩ := h.s30
  obtain ⟨z3, h3⟩ := h.s31
  refine ⟨_, rfl, ?_, ?_, ?_, ?_, ((h.set2 a b).set3 c' d).bel, fun v' z' hv => (((hv.set (by simp) _).set (by simp) _).set (by simp) _).set (by simp) _⟩
  · exact set_far _ (by simp) (set_far _ (by simp) (set_other _ (by simp) (set_same _ h0)))
  · exact set_far _ (by simp) (set_far _ (by simp) (set_same _ (set_other _ (by simp) h1)))
  · exact set_other _ (by simp) (set_same _ (set_far _ (by simp) (set_far _ (by simp) h2)))
  · exact set_same _ (set_other _ (by simp) (set_far _ (by simp) (set_far _ (by simp) h3)))

theorem fs_half {w : World} {u v c : Value} {x y z : Int} {W : World} (h : FS w u v c x y z W) (a b : Value) : ∃ F, (W.setCell ⟨w.heap.size + 1 + 1, 0, none⟩ a).setCell ⟨w.heap.size + 1 + 1, 1, none⟩ b = F ∧ F.cell? ⟨w.heap.size + 1 + 1, 0, none⟩ = some a ∧ F.cell? ⟨w.heap.size + 1 + 1, 1, none⟩ = some b ∧ FS w u v c x y z F ∧ (∀ p v', p.block ≠ w.heap.size + 1 + 1 → W.cell? p = some v' → F.cell? p = some v') ∧ (∀ v' z', WhN (w.heap.size + 4) W v' z' → WhN (w.heap.size + 4) F v' z') := by
  obtain ⟨z0, h0⟩ := h.s20
  obtain ⟨z1, h1⟩ := h.s21
  exact ⟨_, rfl, set_other _ (by simp) (set_same _ h0), set_same _ (set_other _ (by simp) h1), h.set2 a b, fun p v' hp hv => set_far _ (fun e => hp e.symm) (set_far _ (fun e => hp e.symm) hv), fun v' z' hv => (hv.set (by simp) _).set (by simp) _⟩
theorem fs_last {w : World} {u v c : Value} {x y z : Int} {W : World} (h : FS w u v c x y z W) (a b : Value) : ∃ F, (W.setCell ⟨w.heap.size + 1 + 1 + 1, 0, none⟩ a).setCell ⟨w.heap.size + 1 + 1 + 1, 1, none⟩ b = F ∧ F.cell? ⟨w.heap.size + 1 + 1 + 1, 0, none⟩ = some a ∧ F.cell? ⟨w.heap.size + 1 + 1 + 1, 1, none⟩ = some b ∧ (∀ p v', p.block ≠ w.heap.size + 1 + 1 + 1 → W.cell? p = some v' → F.cell? p = some v') ∧ Bel w.heap.size w F ∧ (∀ v' z', WhN (w.heap.size + 4) W v' z' → WhN (w.heap.size + 4) F v' z') := by
  obtain ⟨z0, h0⟩ := h.s30
  obtain ⟨z1, h1⟩ := h.s31
  exact ⟨_, rfl, set_other _ (by simp) (set_same _ h0), set_same _ (set_other _ (by simp) h1), fun p v' hp hv => set_far _ (fun e => hp e.symm) (set_far _ (fun e => hp e.symm) hv), (h.set3 a b).bel, fun v' z' hv => (hv.set (by simp) _).set (by simp) _⟩

theorem wh_minus1 (W : World) : Wh (W.alloc (.cells #[.int .i64 1] 3)) (.agg #[.bool true, .slice (some ⟨W.heap.size, 0, none⟩) 1 1]) (-1) := by
  refine ⟨_, rfl, ?_⟩
  have h := lit_row W 1 3
  show Dg 1000000000 _ _ 1
  unfold Dg
  rw [dg_single (b := 1000000000) (d := 1) (by decide) (by decide) (by decide)]
  exact ⟨_, _, rfl, by simp, by omega, h⟩

set_option maxHeartbeats 800000 in
set_option maxRecDepth 100000 in
theorem floor_diff (v1 v2 : Value) (x y : Int) (w : World) (h1 : Wh w v1 x) (h2 : Wh w v2 y) (hy : y ≠ 0) (hm : (dg 1000000000 x.natAbs).length ≤ 999999) (hn : (dg 1000000000 y.natAbs).length ≤ 999999) (hc : x.tmod y ≠ 0 ∧ ¬ (x.tmod y < 0 ↔ y < 0)) :
    Calls Tryz.prog 66 #[v1, v2] w (TwoP (x.tdiv y + -1) (x.tmod y + y) w) := by
  have H1 := Lib.hid h1
  have H2 := Lib.hid h2
  have HY := Lib.hid hy
  have hm6 := Lib.hid (Nat.le_trans hm (show 999999 ≤ 1000000 by decide))
  obtain ⟨p, rfl, hp⟩ := h1
  obtain ⟨q, rfl, hq⟩ := h2
  clear hp hq hy
  generalize hbx : decide (x < 0) = bx at *
  generalize hby : decide (y < 0) = by_ at *
  have HC : Hid (∀ bv nv, bv = decide (x.tmod y < 0) → nv = (dg 1000000000 (x.tmod y).natAbs).length → 0 < nv ∧ (bv == by_) = false) := by
    intro bv nv h1 h2
    refine ⟨?_, ?_⟩
    · rw [h2, Nat.pos_iff_ne_zero, ne_eq, List.length_eq_zero_iff, dg_eq_nil (by decide)]; omega
    · rw [h1, ← hby]; simpa using hc.2
  have HL1 : Hid ((dg 1000000000 (x.tdiv y).natAbs).length ≤ 1000000) := by
    show _ ≤ _
    rw [Int.natAbs_tdiv]
    exact Nat.le_trans (dg_length_mono (by decide) (Nat.div_le_self _ _)) (Nat.le_trans hm (by decide))
  have HL2 : Hid ((dg 1000000000 (-1 : Int).natAbs).length ≤ 1000000) := by
    show (dg 1000000000 1).length ≤ _
    rw [dg_single (b := 1000000000) (d := 1) (by decide) (by decide) (by decide)]; simp
  have HL3 : Hid ((dg 1000000000 (x.tmod y).natAbs).length ≤ 1000000) := by
    show _ ≤ _
    rw [Int.natAbs_tmod]
    exact Nat.le_trans (dg_length_mono (by decide) (Nat.mod_le _ _)) (Nat.le_trans hm (by decide))
  have HL4 : Hid ((dg 1000000000 y.natAbs).length ≤ 1000000) := Nat.le_trans hn (by decide)
  clear hbx hby
  go_enter Tryz.func66, Tryz.ntmps66
  go_wp2_with fail
  obtain ⟨W, hW, k0, k1, k2, k3, f0, f1, f2, f3, hbel, hsz⟩ := boxes4 w #[.bool bx, p] #[.bool by_, q] #[.bool false, .slice none 0 0] #[.bool false, .slice none 0 0] 72 72 72 72
  rw [hW]
  have c00 := k0 0; have c01 := k0 1; have c10 := k1 0; have c11 := k1 1; have c20 := k2 0; have c21 := k2 1; have c30 := k3 0; have c31 := k3 1; have f20 := f2 0; have f21 := f2 1; have f30 := f3 0; have f31 := f3 1
  simp at c00 c01 c10 c11 c20 c21 c30 c31
  clear k0 k1 k2 k3 f0 f1 f2 f3 hW
  go_wp2_with (go_at_call 65; refine (quo_c _ _ x y _ (H1.out.below hbel.to) (H2.out.below hbel.to) HY.out hm6.out hn).mono ?_; rintro e W2 ⟨u, v, rfl, hu, hv, hbz⟩; have HU := Lib.hid hu; have HV := Lib.hid hv; obtain ⟨bu, Au, nu, cu, rfl, hbu, hnu⟩ := hu.form; obtain ⟨bv, Av, nv, cv, rfl, hbv, hnv⟩ := hv.form; have hcase := HC.out bv nv hbv hnv; clear hbu hnu hbv hnv hu hv; obtain ⟨W3, hW3, k0, k1, f0, f1, hb3, hs3⟩ := boxes2 W2 #[.bool bu, .slice Au nu cu] #[.bool bv, .slice Av nv cv] 72 72; have d00 := k0 0; have d01 := k0 1; have d10 := k1 0; have d11 := k1 1; have hb23 := hb3.to; have e10 := keep_cell hb23 (keep_cell hbz c10); have e11 := keep_cell hb23 (keep_cell hbz c11); have e20 := keep_cell hb23 (keep_cell hbz c20); have e21 := keep_cell hb23 (keep_cell hbz c21); have e30 := keep_cell hb23 (keep_cell hbz c30); have e31 := keep_cell hb23 (keep_cell hbz c31); have i20 := keep_free' hb23 (keep_cell hbz c20) (keep_free' hbz c20 f20); have i21 := keep_free' hb23 (keep_cell hbz c21) (keep_free' hbz c21 f21); have i30 := keep_free' hb23 (keep_cell hbz c30) (keep_free' hbz c30 f30); have i31 := keep_free' hb23 (keep_cell hbz c31) (keep_free' hbz c31 f31); simp at d00 d01 d10 d11; have HBL := Lib.hid ((hbel.call hbz).call hb23); have HB23 := Lib.hid hb23; have HS4 : Hid (W.heap.size = w.heap.size + 4) := hsz; have hs2 := hbz.size; clear k0 k1 f0 f1 hbz c00 c01 c10 c11 c20 c21 c30 c31 f20 f21 f30 f31 hb3 hb23)
  have hfs : FS w (.agg #[.bool bu, .slice Au nu cu]) (.agg #[.bool bv, .slice Av nv cv]) (.agg #[.bool by_, q]) (x.tdiv y) (x.tmod y) y W3 := ⟨⟨_, e20⟩, ⟨_, e21⟩, ⟨_, e30⟩, ⟨_, e31⟩, i20, i21, i30, i31, (HU.out.below HB23.out).wh, (HV.out.below HB23.out).wh, H2.out.below HBL.out.to, (HU.out.below HB23.out).mono (by rw [HS4.out]; exact Nat.le_refl _), (HV.out.below HB23.out).mono (by rw [HS4.out]; exact Nat.le_refl _), H2.out, HBL.out⟩
  have HSZ3 : Hid (w.heap.size + 4 ≤ W3.heap.size) := by show _ ≤ _; have := HS4.out; omega
  have hsw : w.heap.size + 4 ≤ W2.heap.size := by have := HS4.out; omega
  clear e20 e21 e30 e31 i20 i21 i30 i31 hW3 hs3 hs2 hcase hsz
  go_region_held3 (fun w' => w'.cell? ⟨W2.heap.size, 0, none⟩ = some (.bool bu) ∧ w'.cell? ⟨W2.heap.size, 1, none⟩ = some (.slice Au nu cu) ∧ w'.cell? ⟨W2.heap.size + 1, 0, none⟩ = some (.bool bv) ∧ w'.cell? ⟨W2.heap.size + 1, 1, none⟩ = some (.slice Av nv cv) ∧ w'.cell? ⟨w.heap.size + 1, 0, none⟩ = some (.bool by_) ∧ w'.cell? ⟨w.heap.size + 1, 1, none⟩ = some q ∧ FS w (.agg #[.bool bu, .slice Au nu cu]) (.agg #[.bool bv, .slice Av nv cv]) (.agg #[.bool by_, q]) (x.tdiv y) (x.tmod y) y w')
    ((go_split_ands; refine ⟨?_, ?_, ?_, ?_, ?_, ?_, ?_⟩ <;> (first | (with_reducible assumption) | (with_reducible exact keep_cell (Below.refl _ _).drew (by assumption)) | (with_reducible exact keep_cell hbz (by assumption)) | (with_reducible exact FS.call (by assumption) hbz) | (with_reducible exact FS.drew (by assumption)) | (with_reducible exact FS.alloc (by assumption) _) | (with_reducible exact FS.drew (FS.alloc (by assumption) _)) | (with_reducible exact keep_cell (((Below.refl _ _).alloc (Nat.le_refl _) _).drew) (by assumption)) | (with_reducible exact HFS6.out) | (with_reducible exact FS.set3 HFS6.out _ _) | (with_reducible exact keep_cell ((Below.refl _ _).alloc (Nat.le_refl _) _) (by assumption)) | ((with_reducible refine HK6.out _ _ ?_ ?_) <;> (first | (with_reducible assumption) | (simp; done) | (simp; omega))) | ((with_reducible refine set_far _ ?_ (set_far _ ?_ ?_)) <;> (first | (with_reducible assumption) | (simp; done) | (simp; omega))))))
    (first
      | (go_at_call 92; (with_reducible refine (add_c (.agg #[.bool bu, .slice Au nu cu]) _ (x.tdiv y) (-1) _ ?_ ?_ HL1.out HL2.out).mono ?_); (go_split_ands; exact FS.ha (by assumption)); exact wh_minus1 _; rintro e w' ⟨u, rfl, hu, hbz⟩; obtain ⟨b6, A6, n6, c6, rfl, -, -⟩ := hu.form; have HSZ4 := Lib.hid (Nat.le_trans HSZ3.out (Nat.le_trans (by simp) hbz.size)); have HUA := Lib.hid (hu.mono (k' := w.heap.size + 4) (by have := HSZ3.out; simp; omega)); clear hu)
      | (go_at_call 92; (with_reducible refine (add_c (.agg #[.bool bv, .slice Av nv cv]) _ (x.tmod y) y _ ?_ ?_ HL3.out HL4.out).mono ?_); (go_split_ands; exact FS.hb (by assumption)); (go_split_ands; exact FS.hc (by assumption)); rintro e W5 ⟨u, rfl, hu, hbz⟩; obtain ⟨b7, A7, n7, c7, rfl, -, -⟩ := hu.form; have HUB := Lib.hid (hu.mono HSZ4.out); have HUC := Lib.hid (HUA.out.below hbz); go_split_ands; have HFS5 := Lib.hid (FS.call (show FS w _ _ _ _ _ _ _ by assumption) hbz); clear hu)
      | (obtain ⟨zv0, hzv0⟩ := HFS6.out.s30; obtain ⟨zv1, hzv1⟩ := HFS6.out.s31; have hg2 := HFS6.out.g30; have hg3 := HFS6.out.g31; go_simp)
      | (obtain ⟨zu0, hzu0⟩ := HFS5.out.s20; obtain ⟨zu1, hzu1⟩ := HFS5.out.s21; have hg0 := HFS5.out.g20; have hg1 := HFS5.out.g21; go_simp; obtain ⟨W6, hW6, p20, p21, hfs6, hk6, hn6⟩ := fs_half HFS5.out (.bool b6) (.slice A6 n6 c6); rw [hW6]; have HFS6 := Lib.hid hfs6; have HK6 := Lib.hid hk6; have HN6 := Lib.hid hn6; have HP6 := Lib.hid (And.intro p20 p21); clear hW6 hzu0 hzu1 hg0 hg1 hfs6 hk6 hn6 p20 p21))
  go_wp2
  go_split_ands
  obtain ⟨F, hF, r2, r3, hkf, hbf, hwf⟩ := fs_last HFS6.out (.bool b7) (.slice A7 n7 c7)
  have r0 := hkf _ _ (by simp) HP6.out.1
  have r1 := hkf _ _ (by simp) HP6.out.2
  rw [hF]
  refine bodyPost_ret (v := .tuple #[.agg #[.bool b6, .slice A6 n6 c6], .agg #[.bool b7, .slice A7 n7 c7]]) (by simp [results, Tryz.results66, go_sem, r0, r1, r2, r3]) rfl ?_
  exact ⟨_, _, rfl, (hwf _ _ (HN6.out _ _ HUC.out)).mono (by omega), (hwf _ _ (HN6.out _ _ HUB.out)).mono (by omega), hbf.to⟩

theorem floor_c (v1 v2 : Value) (x y : Int) (w : World) (h1 : Wh w v1 x) (h2 : Wh w v2 y) (hy : y ≠ 0) (hm : (dg 1000000000 x.natAbs).length ≤ 999999) (hn : (dg 1000000000 y.natAbs).length ≤ 999999) :
    Calls Tryz.prog 66 #[v1, v2] w (TwoP (x.fdiv y) (x.fmod y) w) := by
  by_cases h0 : x.tmod y = 0
  · obtain ⟨e1, e2⟩ := fdiv_same hy (.inl h0)
    rw [e1, e2]; exact floor_zero v1 v2 x y w h1 h2 hy hm hn h0
  · by_cases hs : (x.tmod y < 0 ↔ y < 0)
    · obtain ⟨e1, e2⟩ := fdiv_same hy (.inr hs)
      rw [e1, e2]; exact floor_same v1 v2 x y w h1 h2 hy hm hn ⟨h0, hs⟩
    · obtain ⟨e1, e2⟩ := fdiv_diff hy h0 hs
      rw [e1, e2]; exact floor_diff v1 v2 x y w h1 h2 hy hm hn ⟨h0, hs⟩

end Go.Proofs.YtbjgpbdkofadiaaGreatDoor
