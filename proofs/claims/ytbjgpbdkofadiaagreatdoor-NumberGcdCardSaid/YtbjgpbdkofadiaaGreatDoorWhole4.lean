/- Integers of any size: quo, floor. -/
import Derived.Test.YtbjgpbdkofadiaaGreatDoorWhole3
import Derived.Deep.RegionWith
namespace Go.Proofs.YtbjgpbdkofadiaaGreatDoor
set_option linter.unusedVariables false
set_option linter.unusedSimpArgs false
open Go.RowKit
attribute [local go_sem] max2_int min2_int max_two min_two

/-- What quo and floor return. -/
def TwoP (x y : Int) (w : World) (e : Ending) (w' : World) : Prop := ∃ u v, e = .returned (.tuple #[u, v]) ∧ WhN w.heap.size w' u x ∧ WhN w.heap.size w' v y ∧ Below w.heap.size w w'

theorem tdiv_sign (x y : Int) (hy : y ≠ 0) : ((!decide (x < 0) == decide (y < 0)) && decide (0 < x.natAbs / y.natAbs)) = decide (x.tdiv y < 0) := by
  have h1 : (x.tdiv y).natAbs = x.natAbs / y.natAbs := Int.natAbs_tdiv x y
  rw [← h1]
  rcases Int.lt_or_le x 0 with hx | hx <;> rcases Int.lt_or_le y 0 with hy' | hy'
  · have : 0 ≤ x.tdiv y := Int.tdiv_nonneg_of_nonpos_of_nonpos (by omega) (by omega)
    rw [decide_eq_true hx, decide_eq_true hy', decide_eq_false (by omega : ¬ x.tdiv y < 0)]; rfl
  · have : x.tdiv y ≤ 0 := by
      have := Int.tdiv_nonneg (show 0 ≤ -x by omega) hy'
      rw [Int.neg_tdiv] at this; omega
    rw [decide_eq_true hx, decide_eq_false (by omega : ¬ y < 0)]
    rw [show (!(true == false)) = true from rfl, Bool.true_and, decide_eq_decide]
    omega
  · have : x.tdiv y ≤ 0 := Int.tdiv_nonpos_of_nonneg_of_nonpos (by omega) (by omega)
    rw [decide_eq_false (by omega : ¬ x < 0), decide_eq_true hy']
    rw [show (!(false == true)) = true from rfl, Bool.true_and, decide_eq_decide]
    omega
  · have : 0 ≤ x.tdiv y := Int.tdiv_nonneg (by omega) (by omega)
    rw [decide_eq_false (by omega : ¬ x < 0), decide_eq_false (by omega : ¬ y < 0), decide_eq_false (by omega : ¬ x.tdiv y < 0)]; rfl

theorem tmod_sign (x y : Int) : (decide (x < 0) && decide (0 < x.natAbs % y.natAbs)) = decide (x.tmod y < 0) := by
  have h1 : (x.tmod y).natAbs = x.natAbs % y.natAbs := Int.natAbs_tmod x y
  rw [← h1]
  rcases Int.lt_or_le x 0 with hx | hx
  · have : x.tmod y ≤ 0 := by
      have := Int.tmod_nonneg y (show 0 ≤ -x by omega)
      rw [Int.neg_tmod] at this; omega
    rw [decide_eq_true hx, Bool.true_and, decide_eq_decide]; omega
  · have := Int.tmod_nonneg y hx
    rw [decide_eq_false (by omega : ¬ x < 0), decide_eq_false (by omega : ¬ x.tmod y < 0)]; rfl

/-- What stands while two results are stored. -/
structure QS (w : World) (u v : Value) (mq mr : Nat) (W : World) : Prop where
  s20 : ∃ z, W.cell? ⟨w.heap.size + 1 + 1, 0, none⟩ = some z
  s21 : ∃ z, W.cell? ⟨w.heap.size + 1 + 1, 1, none⟩ = some z
  s30 : ∃ z, W.cell? ⟨w.heap.size + 1 + 1 + 1, 0, none⟩ = some z
  s31 : ∃ z, W.cell? ⟨w.heap.size + 1 + 1 + 1, 1, none⟩ = some z
  g20 : W.frozen? ⟨w.heap.size + 1 + 1, 0, none⟩ = false
  g21 : W.frozen? ⟨w.heap.size + 1 + 1, 1, none⟩ = false
  g30 : W.frozen? ⟨w.heap.size + 1 + 1 + 1, 0, none⟩ = false
  g31 : W.frozen? ⟨w.heap.size + 1 + 1 + 1, 1, none⟩ = false
  hu : Dg 1000000000 W u mq
  hv : Dg 1000000000 W v mr
  fu : FromB (w.heap.size + 4) u
  fv : FromB (w.heap.size + 4) v
  bel : Bel w.heap.size w W
theorem QS.call {w : World} {u v : Value} {mq mr : Nat} {W W' : World} (h : QS w u v mq mr W) (hb : Below W.heap.size W W') : QS w u v mq mr W' := by
  obtain ⟨⟨a, ha⟩, ⟨b, hb'⟩, ⟨c, hc⟩, ⟨d, hd⟩, g1, g2, g3, g4, hu, hv, fu, fv, hbel⟩ := h
  exact ⟨⟨_, keep_cell hb ha⟩, ⟨_, keep_cell hb hb'⟩, ⟨_, keep_cell hb hc⟩, ⟨_, keep_cell hb hd⟩, keep_free' hb ha g1, keep_free' hb hb' g2, keep_free' hb hc g3, keep_free' hb hd g4, hu.below hb, hv.below hb, fu, fv, hbel.call hb⟩
theorem QS.drew {w : World} {u v : Value} {mq mr : Nat} {W : World} (h : QS w u v mq mr W) : QS w u v mq mr W.drew := h.call (Below.refl _ _).drew
theorem some_set' {w : World} {a b : Addr} {v : Value} (h : ∃ z, w.cell? b = some z) : ∃ z, (w.setCell a v).cell? b = some z := by
  obtain ⟨z, hz⟩ := h
  by_cases e : a = b
  · subst e; exact ⟨_, set_same v hz⟩
  · exact ⟨_, set_other v e hz⟩
theorem QS.set {w : World} {u v : Value} {mq mr : Nat} {W : World} (h : QS w u v mq mr W) (k i : Nat) (hk : w.heap.size ≤ k ∧ k < w.heap.size + 4) (x : Value) : QS w u v mq mr (W.setCell ⟨k, i, none⟩ x) := by
  obtain ⟨ha, hb', hc, hd, g1, g2, g3, g4, hu, hv, fu, fv, hbel⟩ := h
  exact ⟨some_set' ha, some_set' hb', some_set' hc, some_set' hd, by simpa using g1, by simpa using g2, by simpa using g3, by simpa using g4, hu.set fu hk.2 _, hv.set fv hk.2 _, fu, fv, hbel.set _ hk.1⟩
theorem QS.set2 {w : World} {u v : Value} {mq mr : Nat} {W : World} (h : QS w u v mq mr W) (x y : Value) : QS w u v mq mr ((W.setCell ⟨w.heap.size + 1 + 1, 0, none⟩ x).setCell ⟨w.heap.size + 1 + 1, 1, none⟩ y) :=
  (h.set _ _ (by omega) _).set _ _ (by omega) _
theorem QS.set3 {w : World} {u v : Value} {mq mr : Nat} {W : World} (h : QS w u v mq mr W) (x y : Value) : QS w u v mq mr ((W.setCell ⟨w.heap.size + 1 + 1 + 1, 0, none⟩ x).setCell ⟨w.heap.size + 1 + 1 + 1, 1, none⟩ y) :=
  (h.set _ _ (by omega) _).set _ _ (by omega) _

theorem qs_read {w : World} {u v : Value} {mq mr : Nat} {W : World} (h : QS w u v mq mr W) (a b c d : Value) : ∃ F, (((W.setCell ⟨w.heap.size + 1 + 1, 0, none⟩ a).setCell ⟨w.heap.size + 1 + 1, 1, none⟩ b).setCell ⟨w.heap.size + 1 + 1 + 1, 0, none⟩ c).setCell ⟨w.heap.size + 1 + 1 + 1, 1, none⟩ d = F ∧
    F.cell? ⟨w.heap.size + 1 + 1, 0, none⟩ = some a ∧ F.cell? ⟨w.heap.size + 1 + 1, 1, none⟩ = some b ∧ F.cell? ⟨w.heap.size + 1 + 1 + 1, 0, none⟩ = some c ∧ F.cell? ⟨w.heap.size + 1 + 1 + 1, 1, none⟩ = some d ∧ QS w u v mq mr F := by
  obtain ⟨z0, h0⟩ := h.s20
  obtain ⟨z1, h1⟩ := h.s21
  obtain ⟨z2, h2⟩ := h.s30
  obtain ⟨z3, h3⟩ := h.s31
  refine ⟨_, rfl, ?_, ?_, ?_, ?_, (h.set2 a b).set3 c d⟩
  · exact set_far _ (by simp) (set_far _ (by simp) (set_other _ (by simp) (set_same _ h0)))
  · exact set_far _ (by simp) (set_far _ (by simp) (set_same _ (set_other _ (by simp) h1)))
  · exact set_other _ (by simp) (set_same _ (set_far _ (by simp) (set_far _ (by simp) h2)))
  · exact set_same _ (set_other _ (by simp) (set_far _ (by simp) (set_far _ (by simp) h3)))

set_option maxHeartbeats 1000000 in
set_option maxRecDepth 100000 in
theorem quo_c (v1 v2 : Value) (x y : Int) (w : World) (h1 : Wh w v1 x) (h2 : Wh w v2 y) (hy : y ≠ 0) (hm : (dg 1000000000 x.natAbs).length ≤ 1000000) (hn : (dg 1000000000 y.natAbs).length ≤ 999999) :
    Calls Tryz.prog 65 #[v1, v2] w (TwoP (x.tdiv y) (x.tmod y) w) := by
  obtain ⟨p, rfl, hp⟩ := h1
  obtain ⟨q, rfl, hq⟩ := h2
  have HP := Lib.hid hp
  have HQ := Lib.hid hq
  have HY := Lib.hid hy
  have HYP : Hid (0 < y.natAbs) := by show 0 < y.natAbs; omega
  clear hp hq hy
  generalize hbx : decide (x < 0) = bx
  generalize hby : decide (y < 0) = by_
  have HBX := Lib.hid (And.intro hbx hby)
  clear hbx hby
  go_enter Tryz.func65, Tryz.ntmps65
  go_wp2_with fail
  obtain ⟨W, hW, k0, k1, k2, k3, f0, f1, f2, f3, hbel, hsz⟩ := boxes4 w #[.bool bx, p] #[.bool by_, q] #[.bool false, .slice none 0 0] #[.bool false, .slice none 0 0] 72 72 72 72
  rw [hW]
  have c00 := k0 0; have c01 := k0 1; have c10 := k1 0; have c11 := k1 1; have c20 := k2 0; have c21 := k2 1; have c30 := k3 0; have c31 := k3 1; have f20 := f2 0; have f21 := f2 1; have f30 := f3 0; have f31 := f3 1
  simp at c00 c01 c10 c11 c20 c21 c30 c31
  clear k0 k1 k2 k3 f0 f1 f2 f3 hW
  go_wp2_with (go_at_call 75; refine (over_c p q x.natAbs y.natAbs _ (HP.out.below hbel.to) (HQ.out.below hbel.to) HYP.out hm hn).mono ?_; rintro e W2 ⟨u, v, rfl, hu, hv, hfu, hfv, hbz⟩)
  obtain ⟨A6, n6, c6, rfl⟩ := hu.form
  obtain ⟨A7, n7, c7, rfl⟩ := hv.form
  have c00 := keep_cell hbz c00; have c10 := keep_cell hbz c10
  have HFU := show FromB (w.heap.size + 4) (.slice A6 n6 c6) by rw [hsz] at hfu; exact hfu
  have HFV := show FromB (w.heap.size + 4) (.slice A7 n7 c7) by rw [hsz] at hfv; exact hfv
  obtain ⟨mq, hmq⟩ : ∃ mq, x.natAbs / y.natAbs = mq := ⟨_, rfl⟩
  obtain ⟨mr, hmr⟩ : ∃ mr, x.natAbs % y.natAbs = mr := ⟨_, rfl⟩
  rw [hmq] at hu
  rw [hmr] at hv
  have HMQ := Lib.hid (And.intro hmq hmr)
  clear hmq hmr
  have hqs : QS w (.slice A6 n6 c6) (.slice A7 n7 c7) mq mr W2 := ⟨⟨_, keep_cell hbz c20⟩, ⟨_, keep_cell hbz c21⟩, ⟨_, keep_cell hbz c30⟩, ⟨_, keep_cell hbz c31⟩, keep_free' hbz c20 f20, keep_free' hbz c21 f21, keep_free' hbz c30 f30, keep_free' hbz c31 f31, hu, hv, HFU, HFV, hbel.call hbz⟩
  clear c01 c11 c20 c21 c30 c31 f20 f21 f30 f31 hbel hsz hbz hfu hfv hu hv HFU HFV
  have HQS := Lib.hid hqs.drew
  have c00 := keep_cell (Below.refl _ _).drew c00
  have c10 := keep_cell (Below.refl _ _).drew c10
  clear hqs
  go_region_with (first | (go_at_call 60; (with_reducible refine (made_c _ (.slice A6 n6 c6) mq _ ?_).mono ?_); exact HQS.out.hu; rintro e w' ⟨rfl, hbz⟩; have HQS := Lib.hid (HQS.out.call hbz); have c00 := keep_cell hbz c00; have c10 := keep_cell hbz c10; clear hbz) | (go_at_call 60; (with_reducible refine (made_c _ (.slice A7 n7 c7) mr _ ?_).mono ?_); exact HQS.out.hv; rintro e W5 ⟨rfl, hbz⟩; have HQS := Lib.hid (HQS.out.call hbz); (obtain ⟨zu0, hzu0⟩ := HQS.out.s20; obtain ⟨zu1, hzu1⟩ := HQS.out.s21; obtain ⟨zv0, hzv0⟩ := HQS.out.s30; obtain ⟨zv1, hzv1⟩ := HQS.out.s31; have hg0 := HQS.out.g20; have hg1 := HQS.out.g21; have hg2 := HQS.out.g30; have hg3 := HQS.out.g31); clear hbz))
  all_goals
    go_wp2
    obtain ⟨F, hF, r0, r1, r2, r3, hqf⟩ := qs_read HQS.out (.bool (!bx == by_ && decide (0 < mq))) (.slice A6 n6 c6) (.bool (bx && decide (0 < mr))) (.slice A7 n7 c7)
    rw [hF]
    obtain ⟨e1, e2⟩ := HMQ.out
    obtain ⟨e3, e4⟩ := HBX.out
    refine bodyPost_ret (v := .tuple #[.agg #[.bool (!bx == by_ && decide (0 < mq)), .slice A6 n6 c6], .agg #[.bool (bx && decide (0 < mr)), .slice A7 n7 c7]]) (by simp [results, Tryz.results65, go_sem, r0, r1, r2, r3]) rfl ?_
    refine ⟨_, _, rfl, ⟨.slice A6 n6 c6, ?_, ?_⟩, ⟨.slice A7 n7 c7, ?_, ?_⟩, hqf.bel.to⟩
    · rw [← tdiv_sign x y HY.out, e1, e3, e4]
    · rw [Int.natAbs_tdiv, show x.natAbs.div y.natAbs = mq from e1]; exact ⟨hqf.hu, hqf.fu.mono (by omega)⟩
    · rw [← tmod_sign x y, e2, e3]
    · rw [Int.natAbs_tmod, e2]; exact ⟨hqf.hv, hqf.fv.mono (by omega)⟩

end Go.Proofs.YtbjgpbdkofadiaaGreatDoor
