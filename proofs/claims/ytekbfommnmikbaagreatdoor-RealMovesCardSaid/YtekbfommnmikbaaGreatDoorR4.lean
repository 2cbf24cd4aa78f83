/- Bases; the functions at valid integers. -/
import Derived.Deep.RegionWith
import Derived.Laws.IdiomStrings
import Derived.Deep.CutRange
import Derived.Test.YtekbfommnmikbaaGreatDoorM1
import Derived.Test.YtekbfommnmikbaaGreatDoorR2
import Derived.Test.YtekbfommnmikbaaGreatDoorR3
import Derived.Test.YtekbfommnmikbaaGreatDoorShelfB
namespace Go.Proofs.YtekbfommnmikbaaGreatDoor
set_option linter.unusedVariables false
set_option linter.unusedSimpArgs false
open Go.RowKit
attribute [local go_sem] max2_int min2_int max_two min_two

/-- What quo and floor return. -/
def TwoP (x y : Int) (w : World) (e : Ending) (w' : World) : Prop := ∃ u v, e = .returned (.tuple #[u, v]) ∧ WhN w.heap.size w' u x ∧ WhN w.heap.size w' v y ∧ Below w.heap.size w w'

theorem tdiv_sign (x y : Int) (hy : y ≠ 0) : ((!decide (x < 0) == decide (y < 0)) && decide (0 < x.natAbs / y.natAbs)) = decide (x.tdiv y < 0) := by
  have h1 : (x.tdiv y).natAbs = x.natAbs / y.natAbs := Int.natAbs_tdiv x y
  rw [← h1]
  rcases Int.lt_or_le x 0 with hx | hx <;> rcases Int.lt_or_le y 0 with hy' | hy'
  · have : 0 ≤ x.tdiv y := Int.tdiv_nonneg_of_nonpos_of_nonpos (by omega) (by omega)
    rw [decide_eq_true hx, decide_eq_true hy', decide_eq_false (by omega : ¬ x.tdiv y < 0)]; rfl
  · have : x.tdiv y ≤ 0 := by
      have := Int.tdiv_nonneg (show 0 ≤ -x by omega) hy'
      rw [Int.neg_tdiv] at this; omega
    rw [decide_eq_true hx, decide_eq_false (by omega : ¬ y < 0)]
    rw [show (!(true == false)) = true from rfl, Bool.true_and, decide_eq_decide]
    omega
  · have : x.tdiv y ≤ 0 := Int.tdiv_nonpos_of_nonneg_of_nonpos (by omega) (by omega)
    rw [decide_eq_false (by omega : ¬ x < 0), decide_eq_true hy']
    rw [show (!(false == true)) = true from rfl, Bool.true_and, decide_eq_decide]
    omega
  · have : 0 ≤ x.tdiv y := Int.tdiv_nonneg (by omega) (by omega)
    rw [decide_eq_false (by omega : ¬ x < 0), decide_eq_false (by omega : ¬ y < 0), decide_eq_false (by omega : ¬ x.tdiv y < 0)]; rfl

theorem tmod_sign (x y : Int) : (decide (x < 0) && decide (0 < x.natAbs % y.natAbs)) = decide (x.tmod y < 0) := by
  have h1 : (x.tmod y).natAbs = x.natAbs % y.natAbs := Int.natAbs_tmod x y
  rw [← h1]
  rcases Int.lt_or_le x 0 with hx | hx
  · have : x.tmod y ≤ 0 := by
      have := Int.tmod_nonneg y (show 0 ≤ -x by omega)
      rw [Int.neg_tmod] at this; omega
    rw [decide_eq_true hx, Bool.true_and, decide_eq_decide]; omega
  · have := Int.tmod_nonneg y hx
    rw [decide_eq_false (by omega : ¬ x < 0), decide_eq_false (by omega : ¬ x.tmod y < 0)]; rfl

/-- What stands while two results are stored. -/
structure QS (w : World) (u v : Value) (mq mr : Nat) (W : World) : Prop where
  s20 : ∃ z, W.cell? ⟨w.heap.size + 1 + 1, 0, none⟩ = some z
  s21 : ∃ z, W.cell? ⟨w.heap.size + 1 + 1, 1, none⟩ = some z
  s30 : ∃ z, W.cell? ⟨w.heap.size + 1 + 1 + 1, 0, none⟩ = some z
  s31 : ∃ z, W.cell? ⟨w.heap.size + 1 + 1 + 1, 1, none⟩ = some z
  g20 : W.frozen? ⟨w.heap.size + 1 + 1, 0, none⟩ = false
  g21 : W.frozen? ⟨w.heap.size + 1 + 1, 1, none⟩ = false
  g30 : W.frozen? ⟨w.heap.size + 1 + 1 + 1, 0, none⟩ = false
  g31 : W.frozen? ⟨w.heap.size + 1 + 1 + 1, 1, none⟩ = false
  hu : Dg 1000000000 W u mq
  hv : Dg 1000000000 W v mr
  fu : FromB (w.heap.size + 4) u
  fv : FromB (w.heap.size + 4) v
  bel : Bel w.heap.size w W
theorem QS.call {w : World} {u v : Value} {mq mr : Nat} {W W' : World} (h : QS w u v mq mr W) (hb : Below W.heap.size W W') : QS w u v mq mr W' := by
  obtain ⟨⟨a, ha⟩, ⟨b, hb'⟩, ⟨c, hc⟩, ⟨d, hd⟩, g1, g2, g3, g4, hu, hv, fu, fv, hbel⟩ := h
  exact ⟨⟨_, keep_cell hb ha⟩, ⟨_, keep_cell hb hb'⟩, ⟨_, keep_cell hb hc⟩, ⟨_, keep_cell hb hd⟩, keep_free' hb ha g1, keep_free' hb hb' g2, keep_free' hb hc g3, keep_free' hb hd g4, hu.below hb, hv.below hb, fu, fv, hbel.call hb⟩
theorem QS.drew {w : World} {u v : Value} {mq mr : Nat} {W : World} (h : QS w u v mq mr W) : QS w u v mq mr W.drew := h.call (Below.refl _ _).drew
theorem some_set' {w : World} {a b : Addr} {v : Value} (h : ∃ z, w.cell? b = some z) : ∃ z, (w.setCell a v).cell? b = some z := by
  obtain ⟨z, hz⟩ := h
  by_cases e : a = b
  · subst e; exact ⟨_, set_same v hz⟩
  · exact ⟨_, set_other v e hz⟩
theorem QS.set {w : World} {u v : Value} {mq mr : Nat} {W : World} (h : QS w u v mq mr W) (k i : Nat) (hk : w.heap.size ≤ k ∧ k < w.heap.size + 4) (x : Value) : QS w u v mq mr (W.setCell ⟨k, i, none⟩ x) := by
  obtain ⟨ha, hb', hc, hd, g1, g2, g3, g4, hu, hv, fu, fv, hbel⟩ := h
  exact ⟨some_set' ha, some_set' hb', some_set' hc, some_set' hd, by simpa using g1, by simpa using g2, by simpa using g3, by simpa using g4, hu.set fu hk.2 _, hv.set fv hk.2 _, fu, fv, hbel.set _ hk.1⟩
theorem QS.set2 {w : World} {u v : Value} {mq mr : Nat} {W : World} (h : QS w u v mq mr W) (x y : Value) : QS w u v mq mr ((W.setCell ⟨w.heap.size + 1 + 1, 0, none⟩ x).setCell ⟨w.heap.size + 1 + 1, 1, none⟩ y) :=
  (h.set _ _ (by omega) _).set _ _ (by omega) _
theorem QS.set3 {w : World} {u v : Value} {mq mr : Nat} {W : World} (h : QS w u v mq mr W) (x y : Value) : QS w u v mq mr ((W.setCell ⟨w.heap.size + 1 + 1 + 1, 0, none⟩ x).setCell ⟨w.heap.size + 1 + 1 + 1, 1, none⟩ y) :=
  (h.set _ _ (by omega) _).set _ _ (by omega) _

theorem qs_read {w : World} {u v : Value} {mq mr : Nat} {W : World} (h : QS w u v mq mr W) (a b c d : Value) : ∃ F, (((W.setCell ⟨w.heap.size + 1 + 1, 0, none⟩ a).setCell ⟨w.heap.size + 1 + 1, 1, none⟩ b).setCell ⟨w.heap.size + 1 + 1 + 1, 0, none⟩ c).setCell ⟨w.heap.size + 1 + 1 + 1, 1, none⟩ d = F ∧
    F.cell? ⟨w.heap.size + 1 + 1, 0, none⟩ = some a ∧ F.cell? ⟨w.heap.size + 1 + 1, 1, none⟩ = some b ∧ F.cell? ⟨w.heap.size + 1 + 1 + 1, 0, none⟩ = some c ∧ F.cell? ⟨w.heap.size + 1 + 1 + 1, 1, none⟩ = some d ∧ QS w u v mq mr F := by
  obtain ⟨z0, h0⟩ := h.s20
  obtain ⟨z1, h1⟩ := h.s21
  obtain ⟨z2, h2⟩ := h.s30
  obtain ⟨z3, h3⟩ := h.s31
  refine ⟨_, rfl, ?_, ?_, ?_, ?_, (h.set2 a b).set3 c d⟩
  · exact set_far _ (by simp) (set_far _ (by simp) (set_other _ (by simp) (set_same _ h0)))
  · exact set_far _ (by simp) (set_far _ (by simp) (set_same _ (set_other _ (by simp) h1)))
  · exact set_other _ (by simp) (set_same _ (set_far _ (by simp) (set_far _ (by simp) h2)))
  · exact set_same _ (set_other _ (by simp) (set_far _ (by simp) (set_far _ (by simp) h3)))

end Go.Proofs.YtekbfommnmikbaaGreatDoor

namespace Go.Proofs.YtekbfommnmikbaaGreatDoor
set_option linter.unusedVariables false
set_option linter.unusedSimpArgs false
open Go.RowKit
attribute [local go_sem] max2_int min2_int max_two min_two

theorem WhN.form {k : Nat} {w : World} {v : Value} {z : Int} (h : WhN k w v z) : ∃ b A n c, v = .agg #[.bool b, .slice A n c] ∧ b = decide (z < 0) ∧ n = (dg 1000000000 z.natAbs).length := by
  obtain ⟨p, rfl, ⟨A, c, rfl, _⟩, _⟩ := h
  exact ⟨_, _, _, _, rfl, rfl, rfl⟩

theorem fmod_neg_bound (x : Int) {y : Int} (hy : y < 0) : y < x.fmod y ∧ x.fmod y ≤ 0 := by
  have h := Int.fmod_nonneg_of_pos (-x) (show 0 < -y by omega)
  have h2 := Int.fmod_lt_of_pos (-x) (show 0 < -y by omega)
  have e : (-x).fmod (-y) = -(x.fmod y) := by
    rw [Int.fmod_def, Int.fmod_def, Int.neg_fdiv_neg]
    rw [Int.neg_mul]; omega
  omega

theorem fdiv_same {x y : Int} (hy : y ≠ 0) (h : x.tmod y = 0 ∨ (x.tmod y < 0 ↔ y < 0)) : x.fdiv y = x.tdiv y ∧ x.fmod y = x.tmod y := by
  have e1 := Int.mul_tdiv_add_tmod x y
  have e2 := Int.mul_fdiv_add_fmod x y
  have b1 : (x.tmod y).natAbs < y.natAbs := by rw [Int.natAbs_tmod]; exact Nat.mod_lt _ (by omega)
  have key : x.fdiv y = x.tdiv y := by
    rcases Int.lt_or_le 0 y with h0 | h0
    · have c1 := Int.fmod_nonneg_of_pos x h0
      have c2 := Int.fmod_lt_of_pos x h0
      have c3 : 0 ≤ x.tmod y := by
        rcases h with h | h
        · omega
        · rcases Int.lt_or_le (x.tmod y) 0 with k | k
          · have := h.1 k; omega
          · exact k
      have d1 : y * (x.fdiv y - x.tdiv y) = x.tmod y - x.fmod y := by rw [Int.mul_sub]; omega
      rcases Int.lt_trichotomy (x.fdiv y - x.tdiv y) 0 with k | k | k
      · have : y * (x.fdiv y - x.tdiv y) ≤ y * (-1) := Int.mul_le_mul_of_nonneg_left (by omega) (by omega)
        omega
      · omega
      · have : y * 1 ≤ y * (x.fdiv y - x.tdiv y) := Int.mul_le_mul_of_nonneg_left (by omega) (by omega)
        omega
    · have h0' : y < 0 := by omega
      have c1 := fmod_neg_bound x h0'
      have c3 : x.tmod y ≤ 0 := by
        rcases h with h | h
        · omega
        · have := h.2 h0'; omega
      have d1 : (-y) * (x.fdiv y - x.tdiv y) = x.fmod y - x.tmod y := by rw [Int.neg_mul, Int.mul_sub]; omega
      rcases Int.lt_trichotomy (x.fdiv y - x.tdiv y) 0 with k | k | k
      · have : (-y) * (x.fdiv y - x.tdiv y) ≤ (-y) * (-1) := Int.mul_le_mul_of_nonneg_left (by omega) (by omega)
        omega
      · omega
      · have : (-y) * 1 ≤ (-y) * (x.fdiv y - x.tdiv y) := Int.mul_le_mul_of_nonneg_left (by omega) (by omega)
        omega
  refine ⟨key, ?_⟩
  rw [key] at e2
  omega

theorem fdiv_diff {x y : Int} (hy : y ≠ 0) (h0 : x.tmod y ≠ 0) (h : ¬ (x.tmod y < 0 ↔ y < 0)) : x.fdiv y = x.tdiv y + -1 ∧ x.fmod y = x.tmod y + y := by
  have e1 := Int.mul_tdiv_add_tmod x y
  have e2 := Int.mul_fdiv_add_fmod x y
  have b1 : (x.tmod y).natAbs < y.natAbs := by rw [Int.natAbs_tmod]; exact Nat.mod_lt _ (by omega)
  have key : x.fdiv y = x.tdiv y + -1 := by
    rcases Int.lt_or_le 0 y with k0 | k0
    · have c1 := Int.fmod_nonneg_of_pos x k0
      have c2 := Int.fmod_lt_of_pos x k0
      have c3 : x.tmod y < 0 := by
        rcases Int.lt_or_le (x.tmod y) 0 with k | k
        · exact k
        · exact absurd ⟨fun a => by omega, fun a => by omega⟩ h
      have d1 : y * (x.fdiv y - x.tdiv y + 1) = x.tmod y + y - x.fmod y := by rw [Int.mul_add, Int.mul_sub, Int.mul_one]; omega
      rcases Int.lt_trichotomy (x.fdiv y - x.tdiv y + 1) 0 with k | k | k
      · have : y * (x.fdiv y - x.tdiv y + 1) ≤ y * (-1) := Int.mul_le_mul_of_nonneg_left (by omega) (by omega)
        omega
      · omega
      · have : y * 1 ≤ y * (x.fdiv y - x.tdiv y + 1) := Int.mul_le_mul_of_nonneg_left (by omega) (by omega)
        omega
    · have h0' : y < 0 := by omega
      have c1 := fmod_neg_bound x h0'
      have c3 : 0 < x.tmod y := by
        rcases Int.lt_or_le (x.tmod y) 0 with k | k
        · exact absurd ⟨fun a => h0', fun a => k⟩ h
        · omega
      have d1 : (-y) * (x.fdiv y - x.tdiv y + 1) = x.fmod y - x.tmod y - y := by rw [Int.neg_mul, Int.mul_add, Int.mul_sub, Int.mul_one]; omega
      rcases Int.lt_trichotomy (x.fdiv y - x.tdiv y + 1) 0 with k | k | k
      · have : (-y) * (x.fdiv y - x.tdiv y + 1) ≤ (-y) * (-1) := Int.mul_le_mul_of_nonneg_left (by omega) (by omega)
        omega
      · omega
      · have : (-y) * 1 ≤ (-y) * (x.fdiv y - x.tdiv y + 1) := Int.mul_le_mul_of_nonneg_left (by omega) (by omega)
        omega
  refine ⟨key, ?_⟩
  rw [key, Int.mul_add] at e2
  omega

theorem WhN.parts {k : Nat} {w : World} {b : Bool} {p : Value} {z : Int} (h : WhN k w (.agg #[.bool b, p]) z) : Dg 1000000000 w p z.natAbs ∧ FromB k p ∧ b = decide (z < 0) := by
  obtain ⟨p', e, h1, h2⟩ := h
  simp only [Value.agg.injEq, Array.mk.injEq, List.cons.injEq, Value.bool.injEq, and_true] at e
  obtain ⟨rfl, rfl⟩ := e
  exact ⟨h1, h2, rfl⟩

/-- What stands while floor's sums are made. -/
structure FS (w : World) (a b c : Value) (x y z : Int) (W : World) : Prop where
  s20 : ∃ z, W.cell? ⟨w.heap.size + 1 + 1, 0, none⟩ = some z
  s21 : ∃ z, W.cell? ⟨w.heap.size + 1 + 1, 1, none⟩ = some z
  s30 : ∃ z, W.cell? ⟨w.heap.size + 1 + 1 + 1, 0, none⟩ = some z
  s31 : ∃ z, W.cell? ⟨w.heap.size + 1 + 1 + 1, 1, none⟩ = some z
  g20 : W.frozen? ⟨w.heap.size + 1 + 1, 0, none⟩ = false
  g21 : W.frozen? ⟨w.heap.size + 1 + 1, 1, none⟩ = false
  g30 : W.frozen? ⟨w.heap.size + 1 + 1 + 1, 0, none⟩ = false
  g31 : W.frozen? ⟨w.heap.size + 1 + 1 + 1, 1, none⟩ = false
  ha : Wh W a x
  hb : Wh W b y
  hc : Wh W c z
  ka : WhN (w.heap.size + 4) W a x
  kb : WhN (w.heap.size + 4) W b y
  old : Wh w c z
  bel : Bel w.heap.size w W
theorem FS.call {w : World} {a b c : Value} {x y z : Int} {W W' : World} (h : FS w a b c x y z W) (hb : Below W.heap.size W W') : FS w a b c x y z W' := by
  obtain ⟨⟨_, ha⟩, ⟨_, hb'⟩, ⟨_, hc⟩, ⟨_, hd⟩, g1, g2, g3, g4, h1, h2, h3, k1, k2, ho, hbel⟩ := h
  exact ⟨⟨_, keep_cell hb ha⟩, ⟨_, keep_cell hb hb'⟩, ⟨_, keep_cell hb hc⟩, ⟨_, keep_cell hb hd⟩, keep_free' hb ha g1, keep_free' hb hb' g2, keep_free' hb hc g3, keep_free' hb hd g4, h1.below hb, h2.below hb, h3.below hb, k1.below hb, k2.below hb, ho, hbel.call hb⟩
theorem FS.drew {w : World} {a b c : Value} {x y z : Int} {W : World} (h : FS w a b c x y z W) : FS w a b c x y z W.drew := h.call (Below.refl _ _).drew
theorem FS.alloc {w : World} {a b c : Value} {x y z : Int} {W : World} (h : FS w a b c x y z W) (o : Obj) : FS w a b c x y z (W.alloc o) := h.call ((Below.refl _ _).alloc (Nat.le_refl _) _)
theorem FS.set {w : World} {a b c : Value} {x y z : Int} {W : World} (h : FS w a b c x y z W) (k i : Nat) (hk : w.heap.size ≤ k ∧ k < w.heap.size + 4) (v : Value) : FS w a b c x y z (W.setCell ⟨k, i, none⟩ v) := by
  obtain ⟨ha, hb', hc, hd, g1, g2, g3, g4, h1, h2, h3, k1, k2, ho, hbel⟩ := h
  have hbel' := hbel.set (a := ⟨k, i, none⟩) v hk.1
  exact ⟨some_set' ha, some_set' hb', some_set' hc, some_set' hd, by simpa using g1, by simpa using g2, by simpa using g3, by simpa using g4, (k1.set hk.2 _).wh, (k2.set hk.2 _).wh, ho.below hbel'.to, k1.set hk.2 _, k2.set hk.2 _, ho, hbel'⟩
theorem FS.set2 {w : World} {a b c : Value} {x y z : Int} {W : World} (h : FS w a b c x y z W) (u v : Value) : FS w a b c x y z ((W.setCell ⟨w.heap.size + 1 + 1, 0, none⟩ u).setCell ⟨w.heap.size + 1 + 1, 1, none⟩ v) :=
  (h.set _ _ (by omega) _).set _ _ (by omega) _
theorem FS.set3 {w : World} {a b c : Value} {x y z : Int} {W : World} (h : FS w a b c x y z W) (u v : Value) : FS w a b c x y z ((W.setCell ⟨w.heap.size + 1 + 1 + 1, 0, none⟩ u).setCell ⟨w.heap.size + 1 + 1 + 1, 1, none⟩ v) :=
  (h.set _ _ (by omega) _).set _ _ (by omega) _
theorem fs_read {w : World} {u v c : Value} {x y z : Int} {W : World} (h : FS w u v c x y z W) (a b c' d : Value) : ∃ F, (((W.setCell ⟨w.heap.size + 1 + 1, 0, none⟩ a).setCell ⟨w.heap.size + 1 + 1, 1, none⟩ b).setCell ⟨w.heap.size + 1 + 1 + 1, 0, none⟩ c').setCell ⟨w.heap.size + 1 + 1 + 1, 1, none⟩ d = F ∧
    F.cell? ⟨w.heap.size + 1 + 1, 0, none⟩ = some a ∧ F.cell? ⟨w.heap.size + 1 + 1, 1, none⟩ = some b ∧ F.cell? ⟨w.heap.size + 1 + 1 + 1, 0, none⟩ = some c' ∧ F.cell? ⟨w.heap.size + 1 + 1 + 1, 1, none⟩ = some d ∧ Bel w.heap.size w F ∧ (∀ v' z', WhN (w.heap.size + 4) W v' z' → WhN (w.heap.size + 4) F v' z') := by
  obtain ⟨z0, h0⟩ := h.s20
  obtain ⟨z1, h1⟩ := h.s21
  obtain ⟨z2, h2⟩ := h.s30
  obtain ⟨z3, h3⟩ := h.s31
  refine ⟨_, rfl, ?_, ?_, ?_, ?_, ((h.set2 a b).set3 c' d).bel, fun v' z' hv => (((hv.set (by simp) _).set (by simp) _).set (by simp) _).set (by simp) _⟩
  · exact set_far _ (by simp) (set_far _ (by simp) (set_other _ (by simp) (set_same _ h0)))
  · exact set_far _ (by simp) (set_far _ (by simp) (set_same _ (set_other _ (by simp) h1)))
  · exact set_other _ (by simp) (set_same _ (set_far _ (by simp) (set_far _ (by simp) h2)))
  · exact set_same _ (set_other _ (by simp) (set_far _ (by simp) (set_far _ (by simp) h3)))

theorem fs_half {w : World} {u v c : Value} {x y z : Int} {W : World} (h : FS w u v c x y z W) (a b : Value) : ∃ F, (W.setCell ⟨w.heap.size + 1 + 1, 0, none⟩ a).setCell ⟨w.heap.size + 1 + 1, 1, none⟩ b = F ∧ F.cell? ⟨w.heap.size + 1 + 1, 0, none⟩ = some a ∧ F.cell? ⟨w.heap.size + 1 + 1, 1, none⟩ = some b ∧ FS w u v c x y z F ∧ (∀ p v', p.block ≠ w.heap.size + 1 + 1 → W.cell? p = some v' → F.cell? p = some v') ∧ (∀ v' z', WhN (w.heap.size + 4) W v' z' → WhN (w.heap.size + 4) F v' z') := by
  obtain ⟨z0, h0⟩ := h.s20
  obtain ⟨z1, h1⟩ := h.s21
  exact ⟨_, rfl, set_other _ (by simp) (set_same _ h0), set_same _ (set_other _ (by simp) h1), h.set2 a b, fun p v' hp hv => set_far _ (fun e => hp e.symm) (set_far _ (fun e => hp e.symm) hv), fun v' z' hv => (hv.set (by simp) _).set (by simp) _⟩
theorem fs_last {w : World} {u v c : Value} {x y z : Int} {W : World} (h : FS w u v c x y z W) (a b : Value) : ∃ F, (W.setCell ⟨w.heap.size + 1 + 1 + 1, 0, none⟩ a).setCell ⟨w.heap.size + 1 + 1 + 1, 1, none⟩ b = F ∧ F.cell? ⟨w.heap.size + 1 + 1 + 1, 0, none⟩ = some a ∧ F.cell? ⟨w.heap.size + 1 + 1 + 1, 1, none⟩ = some b ∧ (∀ p v', p.block ≠ w.heap.size + 1 + 1 + 1 → W.cell? p = some v' → F.cell? p = some v') ∧ Bel w.heap.size w F ∧ (∀ v' z', WhN (w.heap.size + 4) W v' z' → WhN (w.heap.size + 4) F v' z') := by
  obtain ⟨z0, h0⟩ := h.s30
  obtain ⟨z1, h1⟩ := h.s31
  exact ⟨_, rfl, set_other _ (by simp) (set_same _ h0), set_same _ (set_other _ (by simp) h1), fun p v' hp hv => set_far _ (fun e => hp e.symm) (set_far _ (fun e => hp e.symm) hv), (h.set3 a b).bel, fun v' z' hv => (hv.set (by simp) _).set (by simp) _⟩

theorem wh_minus1 (W : World) : Wh (W.alloc (.cells #[.int .i64 1] 3)) (.agg #[.bool true, .slice (some ⟨W.heap.size, 0, none⟩) 1 1]) (-1) := by
  refine ⟨_, rfl, ?_⟩
  have h := lit_row W 1 3
  show Dg 1000000000 _ _ 1
  unfold Dg
  rw [dg_single (b := 1000000000) (d := 1) (by decide) (by decide) (by decide)]
  exact ⟨_, _, rfl, by simp, by omega, h⟩

end Go.Proofs.YtekbfommnmikbaaGreatDoor

namespace Go.Proofs.YtekbfommnmikbaaGreatDoor
set_option linter.unusedVariables false
set_option linter.unusedSimpArgs false
open Go.RowKit Go.Shelf Go.Proofs

end Go.Proofs.YtekbfommnmikbaaGreatDoor

namespace Go.Proofs.YtekbfommnmikbaaGreatDoor
set_option linter.unusedVariables false
set_option linter.unusedSimpArgs false
open Go.RowKit Go.Shelf Go.Proofs

end Go.Proofs.YtekbfommnmikbaaGreatDoor

namespace Go.Proofs.YtekbfommnmikbaaGreatDoor
set_option linter.unusedVariables false
set_option linter.unusedSimpArgs false

/-- A digit's sign. -/
def chr (d : Nat) : UInt8 := if d < 10 then UInt8.ofNat (48 + d) else UInt8.ofNat (87 + d)
/-- The digits' signs, the most significant one first; nothing for 0. -/
def bdig (b n : Nat) : List UInt8 := (dg b n).reverse.map fun d => chr d.toNat
/-- The text to a base. -/
def btext (b : Nat) (z : Int) : List UInt8 := if z = 0 then [48] else (if z < 0 then [45] else []) ++ bdig b z.natAbs

theorem chr_toNat {d : Nat} (h : d < 36) : (chr d).toNat = if d < 10 then 48 + d else 87 + d := by
  unfold chr
  split
  · rw [UInt8.toNat_ofNat']; omega
  · rw [UInt8.toNat_ofNat']; omega
theorem chr_inj {c d : Nat} (hc : c < 36) (hd : d < 36) (h : chr c = chr d) : c = d := by
  have h1 := congrArg UInt8.toNat h
  rw [chr_toNat hc, chr_toNat hd] at h1
  split at h1 <;> split at h1 <;> omega

theorem bdig_pos {b n : Nat} (hb : 2 ≤ b) (hn : 0 < n) : bdig b n = bdig b (n / b) ++ [chr (n % b)] := by
  unfold bdig
  rw [dg_pos hb hn, List.reverse_cons, List.map_append, List.map_cons, List.map_nil, Int.toNat_natCast]
theorem bdig_zero (b : Nat) : bdig b 0 = [] := by unfold bdig; rw [dg_zero]; rfl

/-- To the base 10: the decimal digits. -/
theorem bdig_ten : ∀ n, 0 < n → bdig 10 n = Lib.decDigits n := by
  intro n
  induction n using Nat.strongRecOn with
  | _ n ih =>
    intro hn
    rw [bdig_pos (by decide) hn]
    by_cases h : n < 10
    · rw [Nat.div_eq_of_lt h, bdig_zero, Nat.mod_eq_of_lt h, Lib.decDigits_one h]
      unfold chr
      rw [if_pos h]; simp
    · rw [ih (n / 10) (by omega) (by omega)]
      conv => rhs; rw [Lib.decDigits, dif_neg h]
      unfold chr
      rw [if_pos (Nat.mod_lt _ (by decide))]
theorem btext_ten (z : Int) : btext 10 z = Lib.itoa z := by
  unfold btext Lib.itoa
  by_cases h0 : z = 0
  · subst h0; rw [if_pos rfl, if_neg (by omega)]; exact decDigits_zero.symm
  · rw [if_neg h0, bdig_ten _ (by omega)]
    by_cases h : z < 0
    · rw [if_pos h, if_pos h]; rfl
    · rw [if_neg h, if_neg h, show z.toNat = z.natAbs by omega]; rfl

/-- What a sign stands for: its index, or none. -/
def idxOf (c : UInt8) : Option Nat := if 48 ≤ c.toNat ∧ c.toNat ≤ 57 then some (c.toNat - 48) else if 97 ≤ c.toNat ∧ c.toNat ≤ 122 then some (c.toNat - 87) else none
theorem idxOf_chr {d : Nat} (h : d < 36) : idxOf (chr d) = some d := by
  have h1 := chr_toNat h
  unfold idxOf
  rw [h1]
  by_cases h2 : d < 10
  · rw [if_pos h2, if_pos (by omega)]; congr 1; omega
  · rw [if_neg h2, if_neg (by omega), if_pos (by omega)]; congr 1; omega
theorem chr_idxOf {c : UInt8} {d : Nat} (h : idxOf c = some d) : d < 36 ∧ chr d = c := by
  unfold idxOf at h
  split at h
  · rename_i h1
    cases h
    refine ⟨by omega, UInt8.toNat_inj.1 ?_⟩
    rw [chr_toNat (by omega), if_pos (by omega)]; omega
  · split at h
    · rename_i h1
      cases h
      refine ⟨by omega, UInt8.toNat_inj.1 ?_⟩
      rw [chr_toNat (by omega), if_neg (by omega)]; omega
    · cases h

/-- The number that signs stand for. -/
def bval (b : Nat) : List UInt8 → Nat := List.foldl (fun acc c => acc * b + (idxOf c).getD 0) 0
theorem bval_nil (b : Nat) : bval b [] = 0 := rfl
theorem bval_snoc (b : Nat) (l : List UInt8) (c : UInt8) : bval b (l ++ [c]) = bval b l * b + (idxOf c).getD 0 := by simp [bval]

/-- All are signs of digits to the base. -/
def bdigs (b : Nat) (l : List UInt8) : Prop := ∀ c ∈ l, ∃ d, idxOf c = some d ∧ d < b

theorem bval_bdig {b : Nat} (hb : 2 ≤ b) (hb2 : b ≤ 36) : ∀ n, bval b (bdig b n) = n := by
  intro n
  induction n using Nat.strongRecOn with
  | _ n ih =>
    rcases Nat.eq_zero_or_pos n with rfl | hn
    · rw [bdig_zero]; rfl
    · have hm : n % b < b := Nat.mod_lt _ (by omega)
      rw [bdig_pos hb hn, bval_snoc, ih (n / b) (Nat.div_lt_self hn hb), idxOf_chr (by omega), Nat.mul_comm]
      exact Nat.div_add_mod n b
theorem bdigs_bdig {b : Nat} (hb : 2 ≤ b) (hb2 : b ≤ 36) (n : Nat) : bdigs b (bdig b n) := by
  induction n using Nat.strongRecOn with
  | _ n ih =>
    rcases Nat.eq_zero_or_pos n with rfl | hn
    · rw [bdig_zero]; intro c hc; cases hc
    · have hm : n % b < b := Nat.mod_lt _ (by omega)
      rw [bdig_pos hb hn]
      intro c hc
      rcases List.mem_append.1 hc with hc | hc
      · exact ih (n / b) (Nat.div_lt_self hn hb) c hc
      · obtain rfl := List.mem_singleton.1 hc
        exact ⟨n % b, idxOf_chr (by omega), hm⟩
theorem bdig_ne {b n : Nat} (hb : 2 ≤ b) (hn : 0 < n) : bdig b n ≠ [] := by rw [bdig_pos hb hn]; simp
theorem bdig_head {b : Nat} (hb : 2 ≤ b) (hb2 : b ≤ 36) : ∀ n, 0 < n → (bdig b n).head? ≠ some 48 := by
  intro n
  induction n using Nat.strongRecOn with
  | _ n ih =>
    intro hn
    rw [bdig_pos hb hn]
    rcases Nat.eq_zero_or_pos (n / b) with h | h
    · have hlt : n < b := by
        rcases Nat.lt_or_ge n b with h2 | h2
        · exact h2
        · have := Nat.div_pos h2 (by omega); omega
      rw [h, bdig_zero, Nat.mod_eq_of_lt hlt]
      intro e
      have e2 : chr n = 48 := by simpa using e
      have := congrArg UInt8.toNat e2
      rw [chr_toNat (by omega)] at this
      have h48 : (48 : UInt8).toNat = 48 := rfl
      rw [h48] at this
      split at this <;> omega
    · rw [head_append _ (bdig_ne hb h)]
      exact ih (n / b) (Nat.div_lt_self hn hb) h
theorem bval_append (b : Nat) (l m : List UInt8) : bval b (l ++ m) = bval b l * b ^ m.length + bval b m := by
  have key : ∀ (m : List UInt8) (acc : Nat), List.foldl (fun acc c => acc * b + (idxOf c).getD 0) acc m = acc * b ^ m.length + bval b m := by
    intro m
    induction m with
    | nil => intro acc; simp [bval]
    | cons c m ih =>
      intro acc
      have h2 : bval b (c :: m) = ((idxOf c).getD 0) * b ^ m.length + bval b m := by
        have := ih ((idxOf c).getD 0)
        simpa [bval] using this
      rw [List.foldl_cons, ih, h2, List.length_cons, Nat.pow_succ]
      grind
  have := key m (bval b l)
  simpa [bval] using this
/-- The value grows with the digits. -/
theorem bval_take_le {b : Nat} (hb : 2 ≤ b) (l : List UInt8) (i : Nat) : bval b (l.take i) ≤ bval b l := by
  conv => rhs; rw [← List.take_append_drop i l, bval_append]
  have : 0 < b ^ (l.drop i).length := Nat.pow_pos (by omega)
  have := Nat.le_mul_of_pos_right (bval b (l.take i)) this
  omega
/-- Digits without a 0 ahead are the digits of their value. -/
theorem bdig_bval {b : Nat} (hb : 2 ≤ b) (hb2 : b ≤ 36) : ∀ (n : Nat) (l : List UInt8), l.length = n + 1 → bdigs b l → l.head? ≠ some 48 → 0 < bval b l ∧ bdig b (bval b l) = l := by
  intro n
  induction n with
  | zero =>
    intro l hl hd hh
    match l, hl with
    | [c], _ =>
      obtain ⟨d, h1, h2⟩ := hd c (by simp)
      obtain ⟨h3, h4⟩ := chr_idxOf h1
      have hv : bval b [c] = d := by simp [bval, h1]
      have h0 : 0 < d := by
        rcases Nat.eq_zero_or_pos d with h | h
        · exfalso; apply hh; rw [← h4, h]; rfl
        · exact h
      rw [hv, bdig_pos hb h0, Nat.div_eq_of_lt h2, bdig_zero, Nat.mod_eq_of_lt h2, h4]
      exact ⟨h0, rfl⟩
  | succ n ih =>
    intro l hl hd hh
    have hne : l ≠ [] := by intro e; rw [e] at hl; simp at hl
    obtain ⟨m, c, rfl⟩ : ∃ m c, l = m ++ [c] := ⟨l.dropLast, l.getLast hne, (List.dropLast_concat_getLast hne).symm⟩
    have hml : m.length = n + 1 := by simpa using hl
    have hmne : m ≠ [] := by intro e; rw [e] at hml; simp at hml
    rw [head_append _ hmne] at hh
    obtain ⟨h5, h6⟩ := ih m hml (fun c hc => hd c (List.mem_append_left _ hc)) hh
    obtain ⟨d, h1, h2⟩ := hd c (by simp)
    obtain ⟨h3, h4⟩ := chr_idxOf h1
    have hv : bval b (m ++ [c]) = bval b m * b + d := by rw [bval_snoc, h1]; rfl
    have hp : 0 < bval b m * b + d := by
      have := Nat.mul_pos h5 (show 0 < b by omega)
      omega
    rw [hv]
    refine ⟨hp, ?_⟩
    rw [bdig_pos hb hp]
    have e1 : (bval b m * b + d) / b = bval b m := by
      rw [Nat.mul_comm, Nat.mul_add_div (by omega), Nat.div_eq_of_lt h2]; rfl
    have e2 : (bval b m * b + d) % b = d := by rw [Nat.mul_comm, Nat.mul_add_mod, Nat.mod_eq_of_lt h2]
    rw [e1, e2, h6, h4]

/-- What FromBase takes: digits behind a sign, without a 0 ahead. -/
def formB (b : Nat) (l : List UInt8) : Prop := Lib.trimPrefix l [45] ≠ [] ∧ ¬ ((Lib.trimPrefix l [45]).head? = some 48 ∧ l ≠ [48]) ∧ bdigs b (Lib.trimPrefix l [45])
/-- The integer. -/
def fromB (b : Nat) (l : List UInt8) : Int := if l.head? = some 45 then -(bval b (Lib.trimPrefix l [45]) : Int) else (bval b (Lib.trimPrefix l [45]) : Int)

theorem not_minus_bdig {b : Nat} (hb : 2 ≤ b) (hb2 : b ≤ 36) (n : Nat) : (bdig b n).head? ≠ some 45 := by
  intro e
  cases h : bdig b n with
  | nil => rw [h] at e; cases e
  | cons c r =>
    rw [h] at e
    have hc : c = 45 := by simpa using e
    obtain ⟨d, h1, h2⟩ := bdigs_bdig hb hb2 n c (by rw [h]; simp)
    rw [hc] at h1
    cases h1

/-- What ToBase writes, FromBase takes. -/
theorem formB_btext {b : Nat} (hb : 2 ≤ b) (hb2 : b ≤ 36) (z : Int) : formB b (btext b z) ∧ fromB b (btext b z) = z := by
  unfold formB fromB btext
  by_cases h0 : z = 0
  · subst h0
    rw [if_pos rfl]
    rw [trim_other (by decide)]
    refine ⟨⟨by simp, by simp, ?_⟩, ?_⟩
    · intro c hc
      obtain rfl := List.mem_singleton.1 hc
      exact ⟨0, rfl, by omega⟩
    · rw [if_neg (by decide)]; simp [bval, idxOf]
  · rw [if_neg h0]
    have hp : 0 < z.natAbs := by omega
    by_cases h : z < 0
    · rw [if_pos h]
      rw [show [45] ++ bdig b z.natAbs = 45 :: bdig b z.natAbs from rfl, trim_minus]
      refine ⟨⟨bdig_ne hb hp, fun ⟨e, _⟩ => bdig_head hb hb2 _ hp e, bdigs_bdig hb hb2 _⟩, ?_⟩
      rw [if_pos (by rfl), bval_bdig hb hb2]; omega
    · rw [if_neg h, List.nil_append, trim_other (not_minus_bdig hb hb2 _)]
      refine ⟨⟨bdig_ne hb hp, fun ⟨e, _⟩ => bdig_head hb hb2 _ hp e, bdigs_bdig hb hb2 _⟩, ?_⟩
      rw [if_neg (not_minus_bdig hb hb2 _), bval_bdig hb hb2]; omega

/-- What FromBase takes, ToBase writes. -/
theorem btext_fromB {b : Nat} (hb : 2 ≤ b) (hb2 : b ≤ 36) {l : List UInt8} (h : formB b l) : btext b (fromB b l) = l := by
  obtain ⟨h1, h2, h3⟩ := h
  by_cases hz : l = [48]
  · subst hz
    unfold fromB
    rw [trim_other (by decide), if_neg (by decide), show bval b [48] = 0 by simp [bval, idxOf]]
    rfl
  · have hh : (Lib.trimPrefix l [45]).head? ≠ some 48 := fun e => h2 ⟨e, hz⟩
    obtain ⟨n, hn⟩ : ∃ n, (Lib.trimPrefix l [45]).length = n + 1 := ⟨(Lib.trimPrefix l [45]).length - 1, by have := List.length_pos_iff.2 h1; omega⟩
    obtain ⟨h4, h5⟩ := bdig_bval hb hb2 n _ hn h3 hh
    unfold fromB btext
    by_cases hm : l.head? = some 45
    · rw [if_pos hm, if_neg (by omega), if_pos (by omega), Int.natAbs_neg, Int.natAbs_natCast, h5]
      cases l with
      | nil => cases hm
      | cons c r =>
        have hc : c = 45 := by simpa using hm
        rw [hc, trim_minus]; rfl
    · rw [if_neg hm, if_neg (by omega), if_neg (by omega), Int.natAbs_natCast, h5, trim_other hm]; rfl

end Go.Proofs.YtekbfommnmikbaaGreatDoor

namespace Go.Proofs.YtekbfommnmikbaaGreatDoor
set_option linter.unusedVariables false
set_option linter.unusedSimpArgs false
open Go.RowKit Go.Shelf Go.Proofs

/-- A slice of one digit, newly made. -/
theorem dg_lit (W : World) (d : Nat) (t : TypeId) (h0 : 0 < d) (h1 : d < 1000000000) : Dg 1000000000 (W.alloc (.cells #[.int .i64 (d : Int)] t)) (.slice (some ⟨W.heap.size, 0, none⟩) 1 1) d := by
  unfold Dg
  rw [dg_single (b := 1000000000) (d := d) (by decide) h0 h1]
  exact ⟨_, _, rfl, by simp, by omega, lit_row W d t⟩

/-- What Root makes. -/
noncomputable def rootOut (x : Int) : Out := if x < 0 then .err 5 else textOut (root x.natAbs)

theorem decVal_zeros : ∀ k, decVal (Lib.repeatL [48] k) = 0
  | 0 => rfl
  | k + 1 => by
    rw [Lib.repeatL, decVal_append, decVal_zeros k, show decVal [48] = 0 from rfl]
    simp
theorem zeros_dig : ∀ k, ∀ b ∈ Lib.repeatL [48] k, isDig b
  | 0, b, h => by cases h
  | k + 1, b, h => by
    rw [Lib.repeatL] at h
    rcases List.mem_append.1 h with h | h
    · obtain rfl := List.mem_singleton.1 h; exact ⟨by decide, by decide⟩
    · exact zeros_dig k b h
/-- The text of a power of 10. -/
theorem ten_text (k : Nat) : decVal ([49] ++ Lib.repeatL [48] k) = 10 ^ k ∧ ∀ b ∈ [49] ++ Lib.repeatL [48] k, isDig b := by
  refine ⟨?_, fun b h => ?_⟩
  · rw [decVal_append, decVal_zeros, Lib.repeatL_length]
    have : decVal [49] = 1 := rfl
    rw [this]; simp
  · rcases List.mem_append.1 h with h | h
    · obtain rfl := List.mem_singleton.1 h; exact ⟨by decide, by decide⟩
    · exact zeros_dig k b h
/-- The start lies above the root. -/
theorem root_start {n l : Nat} (h : n < 10 ^ l) : root n ≤ 10 ^ ((l + 1) / 2) := by
  rcases Nat.lt_or_ge (10 ^ ((l + 1) / 2)) (root n) with h1 | h1
  · exfalso
    have h2 := root_le n
    have h3 : 10 ^ ((l + 1) / 2) * 10 ^ ((l + 1) / 2) ≤ root n * root n := Nat.mul_le_mul (Nat.le_of_lt h1) (Nat.le_of_lt h1)
    rw [← Nat.pow_add] at h3
    have h4 : 10 ^ l ≤ 10 ^ ((l + 1) / 2 + (l + 1) / 2) := Nat.pow_le_pow_right (by decide) (by omega)
    omega
  · exact h1
theorem root_pos {n : Nat} (h : 0 < n) : 0 < root n := by
  have := root_lt n
  rcases Nat.eq_zero_or_pos (root n) with h0 | h0
  · rw [h0] at this; omega
  · exact h0
theorem dg_len_small {n : Nat} (h : n < 10 ^ 250) : (dg 1000000000 n).length ≤ 999999 := by
  refine Nat.le_trans ((dg_length_le (by decide) n 28).2 (Nat.lt_of_lt_of_le h ?_)) (by decide)
  rw [show (1000000000 : Nat) = 10 ^ 9 from rfl, ← Nat.pow_mul]
  exact Nat.pow_le_pow_right (by decide) (by decide)

end Go.Proofs.YtekbfommnmikbaaGreatDoor

namespace Go.Proofs.YtekbfommnmikbaaGreatDoor
set_option linter.unusedVariables false
set_option linter.unusedSimpArgs false
open Go.RowKit Go.Shelf Go.Proofs

/-- What Pow makes. -/
def powOut (x n : Int) : Out := if n < 0 then .err 5 else textOut (x ^ n.toNat)

theorem addr_zero (a : Addr) : a.add 0 = a := by simp [Addr.add]

theorem dg_one : dg 1000000000 1 = [1] := dg_single (b := 1000000000) (d := 1) (by decide) (by decide) (by decide)

/-- Two stores into one block. -/
theorem two_set (W2 : World) (B : Nat) (u v : Value) {z0 z1 : Value} (h0 : W2.cell? ⟨B, 0, none⟩ = some z0) (h1 : W2.cell? ⟨B, 1, none⟩ = some z1) : ∃ F, (W2.setCell ⟨B, 0, none⟩ u).setCell ⟨B, 1, none⟩ v = F ∧ F.cell? ⟨B, 0, none⟩ = some u ∧ F.cell? ⟨B, 1, none⟩ = some v
    ∧ (∀ (p : Addr) v', p.block ≠ B → W2.cell? p = some v' → F.cell? p = some v') ∧ (∀ p, F.frozen? p = W2.frozen? p) ∧ (∀ k w, k ≤ B → Below k w W2 → Below k w F) ∧ (∀ v' z' k, B < k → WhN k W2 v' z' → WhN k F v' z') ∧ F.heap.size = W2.heap.size :=
  ⟨_, rfl, set_other _ (by simp) (set_same _ h0), set_same _ (set_other _ (by simp) h1), fun p v' hp hv => set_far _ (fun e => hp e.symm) (set_far _ (fun e => hp e.symm) hv), fun p => by simp, fun k w hk hb => (hb.setCell hk _).setCell hk _, fun v' z' k hk hv => (hv.set hk _).set hk _, by simp⟩

theorem mul_big (x : Int) {i : Nat} (hx : x.natAbs < 10 ^ 200) (h : (x ^ i).natAbs < 10 ^ 200) : (dg 1000000000 (x ^ i * x).natAbs).length ≤ 1000000 := by
  rw [Int.natAbs_mul]; exact Nat.le_trans (len_mul h hx) (by decide)

theorem powOut_some {x : Int} {n : Int} (hn : 0 ≤ n) : powOut x n = textOut (x ^ n.toNat) := if_neg (by omega)

end Go.Proofs.YtekbfommnmikbaaGreatDoor

namespace Go.Proofs.YtekbfommnmikbaaGreatDoor
set_option linter.unusedVariables false
set_option linter.unusedSimpArgs false
open Go.RowKit Go.Shelf Go.Proofs Go.Sort

/-- Bytes turned around. -/
theorem rev_c (g cap : Nat) (l : List UInt8) (w : World) (hc : ∀ j (hj : j < l.length), w.cell? ⟨g, j, none⟩ = some (.int .u8 (l[j].toNat : Int))) (hf : ∀ j, w.frozen? ⟨g, j, none⟩ = false) (hl : l.length ≤ 9223372036854775807) :
    Calls Tryz.prog 156 #[.slice (some ⟨g, 0, none⟩) l.length cap] w fun e w' => e = .returned (.tuple #[]) ∧ (∀ j (hj : j < l.reverse.length), w'.cell? ⟨g, j, none⟩ = some (.int .u8 (l.reverse[j].toNat : Int))) ∧ (∀ k w0, k ≤ g → Below k w0 w → Below k w0 w') := by
  have h0 : Holds (Value.int .u8) w g 0 (List.map (fun b : UInt8 => (b.toNat : Int)) l).toArray := fun j hj => by
    have hj' : j < l.length := by simpa using hj
    rw [Nat.zero_add]
    refine ⟨?_, hf j⟩
    rw [hc j hj', getElem!_pos _ j hj]
    simp
  have h := AnyE.slices_Reverse Tryz.laysRev (Value.int .u8) (fun _ => rfl) g 0 cap (List.map (fun b : UInt8 => (b.toNat : Int)) l) w h0 (by simpa using hl)
  rw [List.length_map] at h
  refine (show Calls Tryz.prog 156 #[.slice (some ⟨g, 0, none⟩) l.length cap] w _ from h).mono ?_
  rintro e w' ⟨rfl, n, rfl⟩
  refine ⟨rfl, fun j hj => ?_, fun k w0 hk hb => ⟨hb.os, hb.tape, hb.output, by simpa [Sort.ahead] using hb.size, fun i hi => ?_⟩⟩
  · have hj' : j < (List.map (fun b : UInt8 => (b.toNat : Int)) l).reverse.toArray.size := by simpa using hj
    have h1 := cell?_putRow (Value.int .u8) (Sort.ahead w n) g 0 (List.map (fun b : UInt8 => (b.toNat : Int)) l).toArray (List.map (fun b : UInt8 => (b.toNat : Int)) l).reverse.toArray h0 (by simp) j hj'
    rw [Nat.zero_add] at h1
    rw [h1, getElem!_pos _ j hj']
    simp [← List.map_reverse]
  · rw [← hb.block i hi]
    simp only [putRow, mapBlock, Sort.ahead, Array.getElem?_modify]
    rw [if_neg (by omega)]

/-- The digits' table. -/
theorem digit_cell {w : World} (ht : Tabs w) (d : Nat) (hd : d < 36) : w.cell? ⟨0, d, none⟩ = some (.int .u8 ((chr d).toNat : Int)) := by
  have h := ht.digit.cell (g := 0) (by kernel_rfl) d hd
  rw [h]
  have key : ∀ i : Fin 36, ([48, 49, 50, 51, 52, 53, 54, 55, 56, 57, 97, 98, 99, 100, 101, 102, 103, 104, 105, 106, 107, 108, 109, 110, 111, 112, 113, 114, 115, 116, 117, 118, 119, 120, 121, 122] : List Int).getD i.1 0 = ((chr i.1).toNat : Int) := by decide +kernel
  rw [key ⟨d, hd⟩]

set_option maxHeartbeats 1000000 in
theorem tobase1_zero (lv : Value) (b : Addr) (w : World) (h : Whs w lv [0]) :
    Calls Tryz.prog 197 #[lv, .pointer (some b)] w fun e w' => e = (Out.ok (.string ⟨#[48]⟩)).end_ ∧ Below w.heap.size w w' := by
  obtain ⟨a, c, p, rfl, c0, c1, hd⟩ := h.first
  obtain ⟨A6, c6, rfl, -, -, -⟩ := hd
  rw [show (0 : Int).natAbs = 0 from rfl, dg_zero] at c1
  simp only [List.length_nil] at c1
  clear h
  go_enter Tryz.func197, Tryz.ntmps197
  go_wp2_with fail
  go_ret
  exact ⟨rfl, (by repeat (first | exact Below.refl _ _ | exact HB.out | (refine Below.alloc ?_ (by first | (simp; done) | (simp; omega)) _) | (refine Below.setCell ?_ (by first | (simp; done) | (simp; omega)) _) | refine Below.drew ?_ | refine below_drewN ?_ _))⟩

theorem dg_zero_at (d : Nat) (hd : d < 1000000000) : (dg 1000000000 d)[0]?.getD 0 = (d : Int) := by
  rcases Nat.eq_zero_or_pos d with rfl | h
  · rw [dg_zero]; rfl
  · rw [dg_single (b := 1000000000) (d := d) (by decide) h hd]; rfl
theorem at0_c (v : Value) (d : Nat) (w : World) (hd : d < 1000000000) (h : Dg 1000000000 w v d) : Calls Tryz.prog 199 #[v, .int .i64 0] w fun e w' => e = .returned (.int .i64 (d : Int)) ∧ w = w' := by
  obtain ⟨A, c, rfl, _, _, hr⟩ := h
  have := at_c A c _ 0 w hr
  rw [dg_zero_at d hd] at this
  exact this
/-- Digits that an append elsewhere leaves. -/
theorem dg_grown {b' : Nat} (hb : 2 ≤ b') {W W2 : World} {q v : Value} {n : Nat} {o : Obj} (h : Dg b' W q n) (hgrow : (W.alloc o).grownBy W2 v.ownBlock) (hne : ∀ g, q.ownBlock = some g → v.ownBlock ≠ some g) : Dg b' W2 q n := by
  by_cases h0 : n = 0
  · subst h0; exact dg_any h
  · refine h.same fun g hg => ?_
    have hlt := dg_block hb h h0 hg
    rw [hgrow.block g (by simp; omega) (fun e => hne g hg e.symm), Below.heap_alloc W o g hlt]
theorem byte_push (l : List UInt8) (c : UInt8) : Lib.byteCells l ++ [.int .u8 (c.toNat : Int)] = Lib.byteCells (l ++ [c]) := by simp [Lib.byteCells]
theorem len_pow {b N m n : Nat} (hb : 2 ≤ b) (h : N < (b ^ m) ^ n) : (dg b N).length ≤ m * n := (dg_length_le hb N (m * n)).2 (by rw [Nat.pow_mul]; exact h)
theorem bdig_len {b N : Nat} (hb : 2 ≤ b) (hN : N < 10 ^ 200) : (bdig b N).length ≤ 800 := by
  unfold bdig
  rw [List.length_map, List.length_reverse]
  have h : (dg b N).length ≤ 4 * 200 := len_pow hb (Nat.lt_of_lt_of_le hN (Nat.pow_le_pow_left (Nat.le_trans (by decide) (Nat.pow_le_pow_left hb 4)) 200))
  exact h

theorem own_some {w : World} {B : Nat} {t : TypeId} {v : Value} {n : Nat} {xs : List Value} (h : w.ownsRow B t 1 v n xs) (hn : 0 < n) : ∃ g cap, v = .slice (some ⟨g, 0, none⟩) n cap := by
  rcases h.2 with ⟨_, h0⟩ | ⟨g, cap, cur, rfl, _⟩
  · omega
  · exact ⟨g, cap, rfl⟩
theorem own_bytes {w : World} {B g n cap : Nat} {t : TypeId} {l : List UInt8} (h : w.ownsRow B t 1 (.slice (some ⟨g, 0, none⟩) n cap) n (Lib.byteCells l)) : ∀ j (hj : j < l.length), w.cell? ⟨g, j, none⟩ = some (.int .u8 (l[j].toNat : Int)) := fun j hj => by
  have := h.cells (g := g) rfl j (.int .u8 (l[j].toNat : Int)) (by simp [Lib.byteCells, hj])
  rw [add_lit, Nat.zero_add] at this
  exact this
theorem conv_rev {P : Program} (w : World) (g cap : Nat) (l : List UInt8) {src dst e : TypeId} (hs : P.underlying src = some (.slice e)) (he : P.underlying e = some (.int .u8)) (hd : P.underlying dst = some .string)
    (hc : ∀ j (hj : j < l.reverse.length), w.cell? ⟨g, j, none⟩ = some (.int .u8 (l.reverse[j].toNat : Int))) : (convert src dst (.slice (some ⟨g, 0, none⟩) l.length cap)).run P w = .ok (.string ⟨l.reverse.toArray⟩) w := by
  have := run_convert_bytes_back (P := P) w src dst e ⟨g, 0, none⟩ cap l.reverse hs he hd (fun j hj => by rw [add_lit, Nat.zero_add]; exact hc j hj)
  rw [List.length_reverse] at this
  exact this

set_option maxRecDepth 100000 in
set_option maxHeartbeats 1000000 in
theorem tobase1_pos (lv : Value) (pb : Addr) (x : Int) (b : Nat) (w : World) (h : Whs w lv [x]) (ht : Tabs w) (hpb : w.cell? pb = some (.int .i64 (b : Int))) (hb : 2 ≤ b) (hb2 : b ≤ 36) (hx : x.natAbs < 10 ^ 200) (hx0 : x ≠ 0) :
    Calls Tryz.prog 197 #[lv, .pointer (some pb)] w fun e w' => e = (Out.ok (.string ⟨(btext b x).toArray⟩)).end_ ∧ Below w.heap.size w w' := by
  obtain ⟨a, c, p, rfl, c0, c1, hd⟩ := h.first
  have HT := Lib.hid ht
  obtain ⟨N, hN⟩ : ∃ N, x.natAbs = N := ⟨_, rfl⟩
  have hN0 : 0 < N := by omega
  have HXE : Hid (btext b x = (if x < 0 then [45] else []) ++ bdig b N) := by
    show _ = _
    unfold btext
    rw [if_neg hx0, hN]
  rw [hN] at hd hx
  have HD := Lib.hid hd
  have hl0 : 0 < (dg 1000000000 N).length := List.length_pos_iff.2 fun e => by have := (dg_eq_nil (by decide)).1 e; omega
  obtain ⟨L, hL⟩ : ∃ L, (dg 1000000000 N).length = L := ⟨_, rfl⟩
  obtain ⟨A6, c6, hp6, -, -, -⟩ := hd
  have HLL := Lib.hid hL
  rw [hL] at hp6 hl0
  subst hp6
  have hl1 : ((L : Int) == 0) = false := by simp; omega
  have HX := Lib.hid hx
  have HBB := Lib.hid (And.intro hb hb2)
  have HN0 := Lib.hid hN0
  obtain ⟨bx, hbx⟩ : ∃ bx, decide (x < 0) = bx := ⟨_, rfl⟩
  have HBX := Lib.hid hbx
  rw [hbx] at c0
  clear h ht hx hN hL hbx hN0 hb hb2
  go_enter Tryz.func197, Tryz.ntmps197
  go_wp2_with fail
  have HPB := Lib.hid hpb
  have HC0 := Lib.hid c0
  have HC1 := Lib.hid c1
  have HD0 := Lib.hid hl0
  clear hl0
  go_loopg [4, 5] N (fun gk pv ov wr => ∃ (m : Nat) (out : List UInt8), gk = m ∧ Hid (Dg 1000000000 wr pv m ∧ m ≤ N) ∧ Hid (wr.ownsRow w.heap.size 5 1 ov out.length (Lib.byteCells out)) ∧ Hid (bdig b N = bdig b m ++ out.reverse) ∧ wr.cell? pb = some (.int .i64 (b : Int)) ∧ wr.cell? ⟨a, 0, none⟩ = some (.bool bx) ∧ wr.cell? ⟨a, 1, none⟩ = some (.slice A6 L c6) ∧ Hid (Below w.heap.size w wr))
  case atStart => exact ⟨N, [], rfl, ⟨HD.out, Nat.le_refl _⟩, World.ownsRow_nil _ _ _ _, by show _ = _; simp, hpb, c0, c1, Below.refl _ _⟩
  case round =>
    obtain ⟨m, out, hgk, HG, HO, HE, kpb, k0, k1, HB⟩ := hrel
    have HGK := Lib.hid hgk
    clear hpb c0 c1 hgk
    have HDG := Lib.hid HG.out.1
    obtain ⟨A7, c7, hp7, -, -, -⟩ := HG.out.1
    obtain ⟨L7, hL7⟩ : ∃ L7, (dg 1000000000 m).length = L7 := ⟨_, rfl⟩
    rw [hL7] at hp7
    subst hp7
    have hlen : out.length ≤ 800 := by
      have h1 := congrArg List.length HE.out
      have h2 := bdig_len HBB.out.1 HX.out
      rw [h1, List.length_append, List.length_reverse] at h2
      omega
    by_cases hm : m = 0
    · have hz : L7 = 0 := by rw [← hL7, hm, dg_zero]; rfl
      subst hz
      have HEE : Hid (bdig b N = out.reverse) := by have := HE.out; rw [hm, bdig_zero, List.nil_append] at this; exact this
      clear hm hL7
      have hne : 0 < out.length := by
        rcases Nat.eq_zero_or_pos out.length with e | e
        · exfalso
          have h1 : bdig b N = [] := by rw [HEE.out, List.eq_nil_of_length_eq_zero e]; rfl
          have h2 : 0 < N := HN0.out
          exact bdig_ne HBB.out.1 h2 h1
        · exact e
      cases bx with
      | true =>
        have HFIN : Hid (btext b x = 45 :: bdig b N) := by show _ = _; rw [HXE.out, if_pos (by simpa using HBX.out)]; rfl
        go_wp2_with (first
          | (at_builtin; obtain ⟨i0, hi, hz0, hz1, hz2⟩ := info_parts info_byte; refine wpList_append_own _ rfl _ _ 93 rfl w.heap.size 5 i0 (.int .u8 0) 1 1 Tryz.underlying93 hi hz0 hz1 hz2 rfl (by decide) _ _ _ rfl (HO.out.alloc _) ⟨wr.heap.size, 0, none⟩ 1 1 [.int .u8 ((45 : UInt8).toNat : Int)] rfl rfl (cell_one_new _ _ _) (by simp [Value.oneCell']) (by unfold maxLen; omega) (by omega) (by have := HB.out.size; simp; omega) ?_; intro v' w2 hown1 hgrow1 _; rw [byte_push] at hown1; have HB3 := Lib.hid ((HB.out.alloc HB.out.size _).grown hgrow1 (by have := HB.out.size; simp; omega) (fun k hk => (HO.out.lt k hk).1)); obtain ⟨g, cap, rfl⟩ := own_some hown1 (by simp); have HO3 := Lib.hid hown1; clear hi hz0 hz1 hz2 hown1 hgrow1)
          | (go_at_call 156; rw [show out.length + 1 = (out ++ [45]).length by simp]; refine (rev_c g cap (out ++ [45]) _ (own_bytes HO3.out) (fun j => HO3.out.frozenAt j) (by simp; omega)).mono ?_; rintro e W5 ⟨rfl, hcs, hbb⟩; have HB5 := Lib.hid (hbb _ _ (HO3.out.lt g rfl).1 HB3.out); have hcv := conv_rev (P := Tryz.prog) W5 g cap (out ++ [45]) Tryz.underlying93 Tryz.underlying5 Tryz.underlying9 hcs; rw [List.length_append, List.length_singleton] at hcv; obtain ⟨R5, hR5⟩ : ∃ R : ByteArray, (⟨(out ++ [45]).reverse.toArray⟩ : ByteArray) = R := ⟨_, rfl⟩; rw [hR5] at hcv; have HR5 := Lib.hid hR5; clear hR5 hcs hbb))
        go_ret
        refine ⟨?_, HB5.out⟩
        show Ending.returned (.string R5) = .returned (.string ⟨(btext b x).toArray⟩)
        rw [← HR5.out, HFIN.out, HEE.out, List.reverse_append]; rfl
      | false =>
        have HFIN : Hid (btext b x = bdig b N) := by show _ = _; rw [HXE.out, if_neg (by simpa using HBX.out)]; rfl
        obtain ⟨g, cap, rfl⟩ := own_some HO.out hne
        go_wp2_with (go_at_call 156; refine (rev_c g cap out _ (own_bytes HO.out) (fun j => HO.out.frozenAt j) (by omega)).mono ?_; rintro e W5 ⟨rfl, hcs, hbb⟩; have HB5 := Lib.hid (hbb _ _ (HO.out.lt g rfl).1 HB.out); have hcv := conv_rev (P := Tryz.prog) W5 g cap out Tryz.underlying93 Tryz.underlying5 Tryz.underlying9 hcs; obtain ⟨R5, hR5⟩ : ∃ R : ByteArray, (⟨out.reverse.toArray⟩ : ByteArray) = R := ⟨_, rfl⟩; rw [hR5] at hcv; have HR5 := Lib.hid hR5; clear hR5 hcs hbb)
        go_ret
        refine ⟨?_, HB5.out⟩
        show Ending.returned (.string R5) = .returned (.string ⟨(btext b x).toArray⟩)
        rw [← HR5.out, HFIN.out, HEE.out]
    · have hz : 0 < L7 := by rw [← hL7]; exact List.length_pos_iff.2 fun e => by have := (dg_eq_nil (by decide)).1 e; omega
      have HM : Hid (0 < m) := by show 0 < m; omega
      clear hm hL7
      have HDM := Lib.hid (Nat.mod_lt m (show 0 < b by have := HBB.out.1; omega))
      have hd36 : m % b < 36 := by have := HDM.out; have := HBB.out.2; omega
      have HLM : Hid ((dg 1000000000 m).length ≤ 1000000) := Nat.le_trans (dg_length_mono (by decide) HG.out.2) (Nat.le_trans (len23 HX.out) (by decide))
      have HLB : Hid ((dg 1000000000 b).length ≤ 999999) := dg_len_small (by have := HBB.out.2; omega)
      have hlen2 : out.length ≤ 800 := hlen
      go_wp2_with (first
        | (go_at_call 198; refine (over_c _ _ m b _ (HDG.out.below ((Below.refl _ _).alloc (Nat.le_refl _) _)) (dg_lit wr b _ (by have := HBB.out.1; omega) (by have := HBB.out.2; omega)) (by have := HBB.out.1; omega) HLM.out HLB.out).mono ?_; rintro e V2 ⟨q, r, rfl, hq, hr, hfq, -, hbz⟩; obtain ⟨A8, n8, c8, rfl⟩ := hq.form; obtain ⟨A9, n9, c9, rfl⟩ := hr.form; have HQ := Lib.hid hq; have HR := Lib.hid hr; have HFQ := Lib.hid hfq; have HB2 := Lib.hid (below_then' (HB.out.alloc HB.out.size _) hbz); have HO2 := Lib.hid (own_below (HO.out.alloc _) hbz); have hdc := digit_cell (HT.out.below HB2.out) (m % b) hd36; clear hq hr hfq hbz)
        | (go_at_call 199; refine (at0_c _ (m % b) _ (by have := hd36; omega) HR.out).mono ?_; rintro e V3 ⟨rfl, rfl⟩)
        | (at_builtin; obtain ⟨i0, hi, hz0, hz1, hz2⟩ := info_parts info_byte; refine wpList_append_own _ rfl _ _ 93 rfl w.heap.size 5 i0 (.int .u8 0) 1 1 Tryz.underlying93 hi hz0 hz1 hz2 rfl (by decide) _ _ _ rfl (HO2.out.alloc _) ⟨V2.heap.size, 0, none⟩ 1 1 [.int .u8 ((chr (m % b)).toNat : Int)] rfl rfl (cell_one_new _ _ _) (by simp [Value.oneCell']) (by unfold maxLen; omega) (by omega) (by have := HB2.out.size; simp; omega) ?_; intro v' w2 hown1 hgrow1 _; have HO3 := Lib.hid hown1; have HG2 := Lib.hid hgrow1; clear hi hz0 hz1 hz2 hown1 hgrow1))
      go_roundg (m / b)
      case measure => have h1 := HGK.out; have h2 := HM.out; rw [h1]; exact Nat.div_lt_self h2 HBB.out.1
      case rel =>
        have hbn := (HB2.out.alloc HB2.out.size (.cells #[.int .u8 ((chr (m % b)).toNat : Int)] 5)).grown HG2.out (by have := HB2.out.size; simp; omega) (fun k hk => (HO2.out.lt k hk).1)
        refine ⟨m / b, out ++ [chr (m % b)], rfl, ⟨?_, Nat.le_trans (Nat.div_le_self _ _) HG.out.2⟩, ?_, ?_, keep_cell hbn HPB.out, keep_cell hbn HC0.out, keep_cell hbn HC1.out, hbn⟩
        · refine dg_grown (by decide) HQ.out HG2.out (fun g hg e => ?_)
          have h1 := HFQ.out g hg
          have h2 := (HO.out.lt g e).2
          simp at h1
          omega
        · have := HO3.out
          rw [byte_push] at this
          rw [List.length_append, List.length_singleton]
          exact this
        · show _ = _
          rw [HE.out, bdig_pos HBB.out.1 HM.out, List.reverse_append, List.append_assoc]
          rfl

/-- What ToBase makes. -/
def toBaseOut (b : Nat) (x : Int) : Out := .ok (.string ⟨(btext b x).toArray⟩)
def tb1 (b : Nat) (zs : List Int) : Out := toBaseOut b (zs.headD 0)

theorem tobase1_c (lv : Value) (pb : Addr) (x : Int) (b : Nat) (w : World) (h : Whs w lv [x]) (ht : Tabs w) (hpb : w.cell? pb = some (.int .i64 (b : Int))) (hb : 2 ≤ b) (hb2 : b ≤ 36) (hx : x.natAbs < 10 ^ 200) :
    Calls Tryz.prog 197 #[lv, .pointer (some pb)] w fun e w' => e = (toBaseOut b x).end_ ∧ Below w.heap.size w w' := by
  by_cases h0 : x = 0
  · subst h0
    rw [show toBaseOut b 0 = .ok (.string ⟨#[48]⟩) from by unfold toBaseOut btext; rw [if_pos rfl]]
    exact tobase1_zero lv pb w h
  · exact tobase1_pos lv pb x b w h ht hpb hb hb2 hx h0

set_option maxHeartbeats 1000000 in
theorem numToBase_c (S : ByteArray) (b : Nat) (hb : 2 ≤ b) (hb2 : b ≤ 36) (w : World) (ht : Tabs w) : Calls Tryz.prog 150 #[.string S, .int .i64 (b : Int)] w (Un S (toBaseOut b) (.string ⟨#[]⟩) w) := by
  have HT := Lib.hid ht
  have HBB := Lib.hid (And.intro hb hb2)
  have h1 : decide ((b : Int) < 2) = false := by simp; omega
  have h2 : decide (36 < (b : Int)) = false := by simp; omega
  have h3 : ¬ (b : Int) < 2 := by omega
  have h4 : ¬ 36 < (b : Int) := by omega
  clear ht hb hb2
  go_enter Tryz.func150, Tryz.ntmps150
  go_wp2_with (go_at_call 147; refine (withStr_c 197 #[.pointer (some ⟨w.heap.size, 0, none⟩)] (enters_of Tryz.func197 (by kernel_rfl) rfl) _ [S] (tb1 b) _ (by have := strs_one (w.alloc (.cells #[.int .i64 (b : Int)] 3)) S 9; simpa using this) (by simp) ?hf).mono ?_)
  case hf =>
    intro zs hz W lv hb hw
    obtain ⟨x, rfl, hx⟩ := one_zs hz
    have hc : ((w.alloc (.cells #[.int .i64 (b : Int)] 3)).alloc (.cells #[.string S] 9)).cell? ⟨w.heap.size, 0, none⟩ = some (.int .i64 (b : Int)) := keep_cell ((Below.refl _ _).alloc (Nat.le_refl _) _) (new_cell w #[.int .i64 (b : Int)] 3 0)
    exact tobase1_c lv ⟨w.heap.size, 0, none⟩ x b W hw (HT.out.below (Below.trans (((Below.refl w.heap.size w).alloc (Nat.le_refl _) _).alloc (by simp) _) (hb.mono (by first | (simp; done) | (simp; omega) | omega)))) (keep_cell (by simpa using hb) hc) HBB.out.1 HBB.out.2 hx.2
  rintro e w' h
  obtain ⟨a, c, rfl, hr⟩ := with_one (f := toBaseOut b) (show WithP [S] (fun zs => toBaseOut b (zs.headD 0)) _ _ _ _ from h) (((Below.refl w.heap.size w).alloc (Nat.le_refl _) _).alloc (by simp) _)
  have HR := Lib.hid hr
  clear h hr
  go_wp2
  go_ret2
  exact HR.out

set_option maxHeartbeats 1000000 in
theorem numToBase_bad (S : ByteArray) (b : Int) (hb : b < 2 ∨ 36 < b) (w : World) : Calls Tryz.prog 150 #[.string S, .int .i64 b] w fun e w' => e = .returned (.tuple #[.string ⟨#[]⟩, .int .i64 1]) ∧ Below w.heap.size w w' := by
  by_cases h : b < 2
  · have h1 : decide (b < 2) = true := by simp [h]
    clear hb
    go_enter Tryz.func150, Tryz.ntmps150
    go_wp2
    go_ret2
    exact ⟨rfl, (by repeat (first | exact Below.refl _ _ | exact HB.out | (refine Below.alloc ?_ (by first | (simp; done) | (simp; omega)) _) | (refine Below.setCell ?_ (by first | (simp; done) | (simp; omega)) _) | refine Below.drew ?_ | refine below_drewN ?_ _))⟩
  · have h1 : decide (b < 2) = false := by simp; omega
    have h3 : 36 < b := by omega
    have h2 : decide (36 < b) = true := by simp [h3]
    clear hb
    go_enter Tryz.func150, Tryz.ntmps150
    go_wp2
    go_ret2
    exact ⟨rfl, (by repeat (first | exact Below.refl _ _ | exact HB.out | (refine Below.alloc ?_ (by first | (simp; done) | (simp; omega)) _) | (refine Below.setCell ?_ (by first | (simp; done) | (simp; omega)) _) | refine Below.drew ?_ | refine below_drewN ?_ _))⟩

end Go.Proofs.YtekbfommnmikbaaGreatDoor

namespace Go.Proofs.YtekbfommnmikbaaGreatDoor
set_option linter.unusedVariables false
set_option linter.unusedSimpArgs false
open Go.RowKit Go.Shelf Go.Proofs

/-- What FromBase answers to a text of another form. -/
def FormErr (w : World) (e : Ending) (w' : World) : Prop := e = .returned (.tuple #[.string ⟨#[]⟩, .int .i64 7]) ∧ Below w.heap.size w w'

/-- The bytes of a string, in memory of their own. -/
theorem bytes_new (W : World) (D : ByteArray) : ∃ W1 c, (convert 9 93 (.string D)).run Tryz.prog W = .ok (.slice (some ⟨W.heap.size, 0, none⟩) D.size c) W1 ∧ Below W.heap.size W W1 ∧ W.heap.size < W1.heap.size ∧ ∀ j (hj : j < D.size), W1.cell? ⟨W.heap.size, j, none⟩ = some (.int .u8 ((D[j]'hj).toNat : Int)) := by
  refine ⟨_, _, run_bytes_of_string W _ _ 5 D Tryz.underlying9 Tryz.underlying93 Tryz.underlying5, (Below.refl _ _).drew.alloc (Nat.le_refl _) _, by simp, fun j hj => ?_⟩
  exact (cell_of_heap (heap_alloc_new W.drew _) j).trans (bytesRow_at D _ j hj)

theorem prefix_head (l : List UInt8) : Lib.hasPrefix l [45] = decide (l.head? = some 45) := by
  cases l with
  | nil => rfl
  | cons c r =>
    simp only [Lib.hasPrefix, List.isPrefixOf, List.head?_cons, Option.some.injEq, Bool.and_true]
    rw [Bool.eq_iff_iff, beq_iff_eq, decide_eq_true_iff]
    exact eq_comm

theorem cut1_c (a : Addr) (d : Nat) (w : World) (hd : d < 1000000000) (hr : Row .i64 w (some a) [(d : Int)]) : Calls Tryz.prog 222 #[.slice (some a) 1 1] w fun e w' => w = w' ∧ ∃ v, e = .returned v ∧ Dg 1000000000 w' v d := by
  refine (cut_c (some a) 1 [(d : Int)] w hr (by simp) (by omega)).mono ?_
  intro e w' hcut
  obtain ⟨rfl, v, rfl, hdg, _⟩ := cut_dg (b := 1000000000) (n := d) (by decide) hr (by simp) (by omega) (InR.cons (by omega) (by omega) (InR.nil _)) (by simp [val]) hcut
  exact ⟨rfl, v, rfl, hdg⟩

/-- What FromBase makes. -/
def FromP (b : Nat) (S : ByteArray) (w : World) (e : Ending) (w' : World) : Prop := e = .returned ((textOut (fromB b S.data.toList)).res (.string ⟨#[]⟩)) ∧ Below w.heap.size w w'

theorem trim_len (l : List UInt8) : (Lib.trimPrefix l [45]).length ≤ l.length := by
  by_cases h : l.head? = some 45
  · cases l with
    | nil => cases h
    | cons c r =>
      have hc : c = 45 := by simpa using h
      rw [hc, trim_minus]; simp
  · rw [trim_other h]; exact Nat.le_refl _

end Go.Proofs.YtekbfommnmikbaaGreatDoor

namespace Go.Proofs.YtekbfommnmikbaaGreatDoor
set_option linter.unusedVariables false
set_option linter.unusedSimpArgs false
open Go.RowKit Go.Shelf Go.Proofs

/-- The text of an integer that fits, else none; the error. -/
def txt (z : Int) : ByteArray := if z.natAbs < 10 ^ 200 then ⟨(Lib.itoa z).toArray⟩ else ⟨#[]⟩
def ern (z : Int) : Int := if z.natAbs < 10 ^ 200 then 0 else 3
theorem textOut_res (z : Int) : (textOut z).res (.string ⟨#[]⟩) = .tuple #[.string (txt z), .int .i64 (ern z)] := by
  unfold textOut txt ern
  by_cases h : z.natAbs < 10 ^ 200
  · rw [if_pos h, if_pos h, if_pos h]; rfl
  · rw [if_neg h, if_neg h, if_neg h]; rfl
theorem ern_or (z : Int) : ern z = 0 ∨ ern z = 3 := by
  unfold ern; split
  · exact .inl rfl
  · exact .inr rfl
theorem num_of {z : Int} {s : ByteArray} {e : Int} (hs : txt z = s) (he : ern z = e) (h0 : e = 0) : NumL s.data.toList z := by
  have hf : z.natAbs < 10 ^ 200 := by
    by_cases h : z.natAbs < 10 ^ 200
    · exact h
    · rw [ern, if_neg h] at he; omega
  refine ⟨?_, hf⟩
  rw [← hs, txt, if_pos hf]
theorem num_txt {s : ByteArray} {z : Int} (h : NumL s.data.toList z) : txt z = s ∧ ern z = 0 := by
  refine ⟨?_, if_pos h.2⟩
  rw [txt, if_pos h.2, ← h.1]
theorem num_eq {s t : ByteArray} {x y : Int} (hs : NumL s.data.toList x) (ht : NumL t.data.toList y) : s = t ↔ x = y := by
  rw [← (num_txt hs).1, ← (num_txt ht).1]
  constructor
  · intro h
    have h1 := congrArg (fun b : ByteArray => b.data.toList) h
    simp only [txt, if_pos hs.2, if_pos ht.2] at h1
    exact itoa_inj h1
  · intro h; rw [h]
theorem num_zero : NumL [48] 0 := ⟨by rw [Lib.itoa, if_neg (by decide)]; exact decDigits_zero.symm, by decide⟩
theorem num_is_zero {s : ByteArray} {x : Int} (hs : NumL s.data.toList x) : (s.toList == [48]) = decide (x = 0) := by
  rw [ByteArray.toList_eq, Bool.eq_iff_iff, beq_iff_eq, decide_eq_true_iff]
  constructor
  · intro h; rw [h] at hs; exact itoa_inj (hs.1.symm.trans num_zero.1)
  · intro h; rw [h] at hs; rw [hs.1, ← num_zero.1]

theorem un_at {S : ByteArray} {f : Int → Out} {zv : Value} {w w' : World} {e : Ending} {x : Int} (h : Un S f zv w e w') (hx : NumL S.data.toList x) : e = .returned ((f x).res zv) ∧ Below w.heap.size w w' := by
  obtain ⟨h, hb⟩ := h
  rcases h with ⟨x', hx', rfl⟩ | ⟨hn, _⟩
  · rw [itoa_inj (hx.1.symm.trans hx'.1)]; exact ⟨rfl, hb⟩
  · exact absurd ⟨x, hx⟩ hn
theorem bi_at {S T : ByteArray} {f : Int → Int → Out} {zv : Value} {w w' : World} {e : Ending} {x y : Int} (h : Bi S T f zv w e w') (hx : NumL S.data.toList x) (hy : NumL T.data.toList y) : e = .returned ((f x y).res zv) ∧ Below w.heap.size w w' := by
  obtain ⟨h, hb⟩ := h
  rcases h with ⟨x', y', hx', hy', rfl⟩ | ⟨hn, _⟩
  · rw [itoa_inj (hx.1.symm.trans hx'.1), itoa_inj (hy.1.symm.trans hy'.1)]; exact ⟨rfl, hb⟩
  · exact absurd ⟨⟨x, hx⟩, y, hy⟩ hn

/-- A call answers with the text s and the error k. -/
def Ans (s : ByteArray) (k : Int) (w : World) (e : Ending) (w' : World) : Prop := e = .returned (.tuple #[.string s, .int .i64 k]) ∧ Below w.heap.size w w'
/-- A call answers with the int n and no error. -/
def AnsI (n : Int) (w : World) (e : Ending) (w' : World) : Prop := e = .returned (.tuple #[.int .i64 n, .int .i64 0]) ∧ Below w.heap.size w w'
theorem ans_mk {z : Int} {s : ByteArray} {k : Int} {w w' : World} {e : Ending} (h : e = .returned ((textOut z).res (.string ⟨#[]⟩)) ∧ Below w.heap.size w w') (hs : txt z = s) (hk : ern z = k) : Ans s k w e w' := by
  rw [textOut_res, hs, hk] at h; exact h

section
variable (S T : ByteArray) (x y : Int) (s : ByteArray) (k : Int) (w : World)
theorem law_add (hS : NumL S.data.toList x) (hT : NumL T.data.toList y) (hs : txt (x + y) = s) (hk : ern (x + y) = k) (ht : Tabs w) : Calls Tryz.prog 76 #[.string S, .string T] w (Ans s k w) :=
  (numAdd_c S T w ht).mono fun _ _ h => ans_mk (bi_at h hS hT) hs hk
theorem law_mul (hS : NumL S.data.toList x) (hT : NumL T.data.toList y) (hs : txt (x * y) = s) (hk : ern (x * y) = k) (ht : Tabs w) : Calls Tryz.prog 81 #[.string S, .string T] w (Ans s k w) :=
  (numMul_c S T w ht).mono fun _ _ h => ans_mk (bi_at h hS hT) hs hk
theorem law_sub (hS : NumL S.data.toList x) (hT : NumL T.data.toList y) (hs : txt (x + -y) = s) (hk : ern (x + -y) = k) (ht : Tabs w) : Calls Tryz.prog 145 #[.string S, .string T] w (Ans s k w) :=
  (numSub_c S T w ht).mono fun _ _ h => ans_mk (bi_at h hS hT) hs hk
theorem law_abs (hS : NumL S.data.toList x) (hs : txt (x.natAbs : Int) = s) (hk : ern (x.natAbs : Int) = k) (ht : Tabs w) : Calls Tryz.prog 146 #[.string S] w (Ans s k w) :=
  (abs_c S w ht).mono fun _ _ h => ans_mk (z := (x.natAbs : Int)) (un_at (f := fun x => textOut (x.natAbs : Int)) h hS) hs hk
theorem law_cmp (hS : NumL S.data.toList x) (hT : NumL T.data.toList y) (ht : Tabs w) : Calls Tryz.prog 71 #[.string S, .string T] w (AnsI (sgn (x + -y)) w) :=
  (numCmp_c S T w ht).mono fun _ _ h => bi_at h hS hT
end

end Go.Proofs.YtekbfommnmikbaaGreatDoor

namespace Go.Proofs.YtekbfommnmikbaaGreatDoor
set_option linter.unusedVariables false
set_option linter.unusedSimpArgs false
open Go.RowKit Go.Shelf Go.Proofs

/-- What combined returns. -/
def CombP (a0 b0 : Nat) (w : World) (e : Ending) (w' : World) : Prop := ∃ u v x, e = .returned (.tuple #[u, v]) ∧ Dg 1000000000 w' u (Nat.gcd a0 b0) ∧ Wh w' v x ∧ (∃ s : Int, x * (a0 : Int) + s * (b0 : Int) = (Nat.gcd a0 b0 : Int)) ∧ x.natAbs ≤ b0 + 1 ∧ Below w.heap.size w w'

/-- A value that does not lie in two blocks (or is empty). -/
def Safe2 (B n : Nat) (p : Value) : Prop := n = 0 ∨ ∀ g, p.ownBlock = some g → g ≠ B + 2 ∧ g ≠ B + 3
def SafeR (B n : Nat) (p : Value) : Prop := n = 0 ∨ ∀ g, p.ownBlock = some g → g ≠ B
def Safe (B n : Nat) (p : Value) : Prop := Safe2 B n p ∧ SafeR B n p
theorem safe_mk {B n : Nat} {p : Value} (h : n ≠ 0 → ∀ g, p.ownBlock = some g → g < B ∨ B + 4 ≤ g ∨ g = B + 1) : Safe B n p := by
  by_cases h0 : n = 0
  · exact ⟨.inl h0, .inl h0⟩
  · exact ⟨.inr fun g hg => by have := h h0 g hg; omega, .inr fun g hg => by have := h h0 g hg; omega⟩

theorem Dg.safe_set {w : World} {B n : Nat} {p : Value} (h : Dg 1000000000 w p n) (hs : Safe2 B n p) {k i : Nat} (hk : k = B + 2 ∨ k = B + 3) (v : Value) : Dg 1000000000 (w.setCell ⟨k, i, none⟩ v) p n := by
  rcases hs with h0 | hs
  · subst h0; exact dg_any h
  · exact h.same fun g hg => Below.heap_setCell _ _ _ _ (by have := hs g hg; simp; omega)

theorem Dg.safe_setR {w : World} {B n i : Nat} {p : Value} (h : Dg 1000000000 w p n) (hs : SafeR B n p) (v : Value) : Dg 1000000000 (w.setCell ⟨B, i, none⟩ v) p n := by
  rcases hs with h0 | hs
  · subst h0; exact dg_any h
  · exact h.same fun g hg => Below.heap_setCell _ _ _ _ (by have := hs g hg; simp; omega)

end Go.Proofs.YtekbfommnmikbaaGreatDoor

namespace Go.Proofs.YtekbfommnmikbaaGreatDoor
set_option linter.unusedVariables false
set_option linter.unusedSimpArgs false
open Go.RowKit Go.Shelf Go.Proofs

theorem old_cells {w w' : World} (h : Below w.heap.size w w') : ∀ a : Addr, a.block < w.heap.size → w'.cell? a = w.cell? a := fun a ha => h.cell ha
theorem old_free {w w' : World} (h : Below w.heap.size w w') : ∀ a : Addr, a.block < w.heap.size → w'.frozen? a = w.frozen? a := fun a ha => h.frozen ha
theorem set_sameS {w : World} {a : Addr} {v : Value} (h : (w.cell? a).isSome = true) : (w.setCell a v).cell? a = some v := by
  obtain ⟨u, hu⟩ := Option.isSome_iff_exists.1 h
  exact set_same v hu
theorem nw0 (W : World) (cs : Array Value) (t : TypeId) (i : Nat) (v : Value) (h : cs[i]? = some v) : (W.alloc (.cells cs t)).cell? ⟨W.heap.size, i, none⟩ = some v := (new_cell W cs t i).trans h
theorem nw0b (W : World) (cs : Array Value) (t : TypeId) (o : Obj) (i : Nat) (v : Value) (h : cs[i]? = some v) : ((W.alloc (.cells cs t)).alloc o).cell? ⟨W.heap.size, i, none⟩ = some v := keep_cell ((Below.refl _ _).alloc (Nat.le_refl _) _) ((new_cell W cs t i).trans h)
theorem nw0c (W : World) (cs : Array Value) (t : TypeId) (o : Obj) (i : Nat) (v : Value) (h : cs[i]? = some v) : ((W.alloc o).alloc (.cells cs t)).cell? ⟨W.heap.size + 1, i, none⟩ = some v := by
  have := new_cell (W.alloc o) cs t i
  rw [show (W.alloc o).heap.size = W.heap.size + 1 by simp] at this
  exact this.trans h
/-- Digits that lie between two blocks. -/
theorem dg_mid {W2 X : World} {v : Value} {n k : Nat} (h : Dg 1000000000 W2 v n) (hf : FromB k v) (hx : ∀ g, k ≤ g → g < W2.heap.size → X.heap[g]? = W2.heap[g]?) : Dg 1000000000 X v n := by
  by_cases h0 : n = 0
  · subst h0; exact dg_any h
  · exact h.same fun g hg => hx g (hf g hg) (dg_block (by decide) h h0 hg)
/-- Cells of blocks just made. -/
theorem nw1 (W : World) (cs : Array Value) (t : TypeId) (i : Nat) (v : Value) (h : cs[i]? = some v) : (W.alloc (.cells cs t)).drew.cell? ⟨W.heap.size, i, none⟩ = some v := (new_cell W cs t i).trans h
theorem nf1 (W : World) (cs : Array Value) (t : TypeId) (i : Nat) : (W.alloc (.cells cs t)).drew.frozen? ⟨W.heap.size, i, none⟩ = false := new_free W cs t i
theorem nw2 (W : World) (cs : Array Value) (t : TypeId) (o : Obj) (i : Nat) (v : Value) (h : cs[i]? = some v) : ((W.alloc (.cells cs t)).alloc o).drew.cell? ⟨W.heap.size, i, none⟩ = some v := keep_cell ((Below.refl _ _).alloc (Nat.le_refl _) _).drew ((new_cell W cs t i).trans h)
theorem nf2 (W : World) (cs : Array Value) (t : TypeId) (o : Obj) (i : Nat) (v : Value) (h : cs[i]? = some v) : ((W.alloc (.cells cs t)).alloc o).drew.frozen? ⟨W.heap.size, i, none⟩ = false := keep_free' ((Below.refl _ _).alloc (Nat.le_refl _) _).drew ((new_cell W cs t i).trans h) (new_free W cs t i)
theorem nw3 (W : World) (cs : Array Value) (t : TypeId) (o : Obj) (i : Nat) (v : Value) (h : cs[i]? = some v) : ((W.alloc o).alloc (.cells cs t)).drew.cell? ⟨W.heap.size + 1, i, none⟩ = some v := by
  have := new_cell (W.alloc o) cs t i
  rw [show (W.alloc o).heap.size = W.heap.size + 1 by simp] at this
  exact this.trans h
theorem nf3 (W : World) (cs : Array Value) (t : TypeId) (o : Obj) (i : Nat) : ((W.alloc o).alloc (.cells cs t)).drew.frozen? ⟨W.heap.size + 1, i, none⟩ = false := by
  have := new_free (W.alloc o) cs t i
  rw [show (W.alloc o).heap.size = W.heap.size + 1 by simp] at this
  exact this

def tx (z : Int) : ByteArray := ⟨(Lib.itoa z).toArray⟩
/-- What a division makes. -/
def divOut (Q R y : Int) : Out := if y = 0 then .err 5 else if Q.natAbs < 10 ^ 200 then .ok (.agg #[.string (tx Q), .string (tx R)]) else .err 3

end Go.Proofs.YtekbfommnmikbaaGreatDoor

namespace Go.Proofs.YtekbfommnmikbaaGreatDoor
set_option linter.unusedVariables false
set_option linter.unusedSimpArgs false
open Go.RowKit Go.Shelf Go.Proofs

/-- Three results out of what a division makes. -/
def three : Out → Value
  | .ok (.agg #[a, b]) => .tuple #[a, b, .int .i64 0]
  | .ok v => v
  | .err k => .tuple #[.string ⟨#[]⟩, .string ⟨#[]⟩, .int .i64 k]
/-- What a division of two strings returns. -/
def DivA (S T : ByteArray) (Q R : Int → Int → Int) (w : World) (e : Ending) (w' : World) : Prop :=
  ((∃ x y, NumL S.data.toList x ∧ NumL T.data.toList y ∧ e = .returned (three (divOut (Q x y) (R x y) y))) ∨ ((¬ ((∃ x, NumL S.data.toList x) ∧ ∃ y, NumL T.data.toList y)) ∧ e = .returned (.tuple #[.string ⟨#[]⟩, .string ⟨#[]⟩, .int .i64 1]))) ∧ Below w.heap.size w w'
theorem DivA.more {S T : ByteArray} {Q R : Int → Int → Int} {w w1 w2 : World} {e : Ending} (h : DivA S T Q R w e w1) (hb : Below w1.heap.size w1 w2) : DivA S T Q R w e w2 := ⟨h.1, below_then' h.2 hb⟩
def dv2 (Q R : Int → Int → Int) (zs : List Int) : Out := divOut (Q (zs.headD 0) (zs.getD 1 0)) (R (zs.headD 0) (zs.getD 1 0)) (zs.getD 1 0)

theorem divOut_form (Q R y : Int) : (∃ a b, divOut Q R y = .ok (.agg #[.string a, .string b])) ∨ ∃ k, divOut Q R y = .err k := by
  unfold divOut
  split
  · exact .inr ⟨_, rfl⟩
  · split
    · exact .inl ⟨_, _, rfl⟩
    · exact .inr ⟨_, rfl⟩

theorem with_div {S T : ByteArray} {Q R : Int → Int → Int} {w w1 : World} {e : Ending} {w' : World} (h : WithP [S, T] (dv2 Q R) (.agg #[.string ⟨#[]⟩, .string ⟨#[]⟩]) w1 e w') (hb : Below w.heap.size w w1) :
    ∃ a b k, e = .returned (.tuple #[.agg #[.string a, .string b], .int .i64 k]) ∧ DivA S T Q R w (.returned (.tuple #[.string a, .string b, .int .i64 k])) w' := by
  obtain ⟨h, hb2⟩ := h
  have hbb := below_then' hb hb2
  rcases h with ⟨zs, hz, rfl⟩ | ⟨hn, rfl⟩
  · obtain ⟨x, y, rfl, hx, hy⟩ := two_zs hz
    have e2 : dv2 Q R [x, y] = divOut (Q x y) (R x y) y := rfl
    rw [e2]
    rcases divOut_form (Q x y) (R x y) y with ⟨a, b, h⟩ | ⟨k, h⟩
    · exact ⟨a, b, 0, by rw [h]; rfl, .inl ⟨x, y, hx, hy, by rw [h]; rfl⟩, hbb⟩
    · exact ⟨_, _, k, by rw [h]; rfl, .inl ⟨x, y, hx, hy, by rw [h]; rfl⟩, hbb⟩
  · refine ⟨_, _, _, rfl, .inr ⟨?_, rfl⟩, hbb⟩
    rintro ⟨⟨x, hx⟩, y, hy⟩
    refine hn ⟨[x, y], rfl, fun j hj => ?_⟩
    match j, hj with
    | 0, _ => simpa using hx
    | 1, _ => simpa using hy

theorem diva_form {S T : ByteArray} {Q R : Int → Int → Int} {w w' : World} {e : Ending} (h : DivA S T Q R w e w') : ∃ a b k, e = .returned (.tuple #[.string a, .string b, .int .i64 k]) := by
  rcases h.1 with ⟨x, y, _, _, rfl⟩ | ⟨_, rfl⟩
  · rcases divOut_form (Q x y) (R x y) y with ⟨a, b, h'⟩ | ⟨k, h'⟩
    · rw [h']; exact ⟨_, _, _, rfl⟩
    · rw [h']; exact ⟨_, _, _, rfl⟩
  · exact ⟨_, _, _, rfl⟩

theorem fdiv_small (x : Int) {y : Int} (hy : y ≠ 0) : (x.fdiv y).natAbs ≤ x.natAbs + 1 ∧ (x.fmod y).natAbs < y.natAbs := by
  have h1 : (x.tdiv y).natAbs ≤ x.natAbs := by rw [Int.natAbs_tdiv]; exact Nat.div_le_self _ _
  have h2 : (x.tmod y).natAbs < y.natAbs := by rw [Int.natAbs_tmod]; exact Nat.mod_lt _ (by omega)
  refine ⟨?_, ?_⟩
  · by_cases h0 : x.tmod y = 0
    · rw [(fdiv_same hy (.inl h0)).1]; omega
    · by_cases hs : (x.tmod y < 0 ↔ y < 0)
      · rw [(fdiv_same hy (.inr hs)).1]; omega
      · rw [(fdiv_diff hy h0 hs).1]; omega
  · rcases Int.lt_or_le 0 y with k | k
    · have a := Int.fmod_nonneg_of_pos x k
      have b := Int.fmod_lt_of_pos x k
      omega
    · have a := fmod_neg_bound x (show y < 0 by omega)
      omega

end Go.Proofs.YtekbfommnmikbaaGreatDoor

namespace Go.Proofs.YtekbfommnmikbaaGreatDoor
set_option linter.unusedVariables false
set_option linter.unusedSimpArgs false
open Go.RowKit Go.Shelf Go.Proofs

theorem tx_txt {z : Int} (h : z.natAbs < 10 ^ 200) : tx z = txt z := by rw [txt, if_pos h]; rfl
theorem num_fit {z : Int} {s : ByteArray} (h : z.natAbs < 10 ^ 200) (hs : txt z = s) : NumL s.data.toList z := num_of hs (ern_fit h) rfl
where ern_fit {z : Int} (h : z.natAbs < 10 ^ 200) : ern z = 0 := if_pos h
theorem ern_fit {z : Int} (h : z.natAbs < 10 ^ 200) : ern z = 0 := if_pos h

/-- A call answers with two texts and the error k. -/
def Ans2 (s t : ByteArray) (k : Int) (w : World) (e : Ending) (w' : World) : Prop := e = .returned (.tuple #[.string s, .string t, .int .i64 k]) ∧ Below w.heap.size w w'

theorem div_at {S T : ByteArray} {Q R : Int → Int → Int} {w w' : World} {e : Ending} {x y : Int} (h : DivA S T Q R w e w') (hx : NumL S.data.toList x) (hy : NumL T.data.toList y) : e = .returned (three (divOut (Q x y) (R x y) y)) ∧ Below w.heap.size w w' := by
  obtain ⟨h, hb⟩ := h
  rcases h with ⟨x', y', hx', hy', rfl⟩ | ⟨hn, _⟩
  · rw [itoa_inj (hx.1.symm.trans hx'.1), itoa_inj (hy.1.symm.trans hy'.1)]; exact ⟨rfl, hb⟩
  · exact absurd ⟨⟨x, hx⟩, y, hy⟩ hn
theorem divOut_ok {Q R y : Int} (hy : y ≠ 0) (hQ : Q.natAbs < 10 ^ 200) : divOut Q R y = .ok (.agg #[.string (tx Q), .string (tx R)]) := by
  rw [divOut, if_neg hy, if_pos hQ]
theorem divOut_none {Q R : Int} : divOut Q R 0 = .err 5 := if_pos rfl
theorem divOut_big {Q R y : Int} (hy : y ≠ 0) (hQ : ¬ Q.natAbs < 10 ^ 200) : divOut Q R y = .err 3 := by
  rw [divOut, if_neg hy, if_neg hQ]
theorem tdiv_fit {x y : Int} (hx : x.natAbs < 10 ^ 200) : (x.tdiv y).natAbs < 10 ^ 200 := by
  rw [Int.natAbs_tdiv]; exact Nat.lt_of_le_of_lt (Nat.div_le_self _ _) hx
theorem tmod_fit {x y : Int} (hx : x.natAbs < 10 ^ 200) : (x.tmod y).natAbs < 10 ^ 200 := by
  rw [Int.natAbs_tmod]; exact Nat.lt_of_le_of_lt (Nat.mod_le _ _) hx
theorem fmod_neg_rng (x : Int) {y : Int} (h : y < 0) : x.fmod y ≤ 0 ∧ y < x.fmod y := by
  have h1 : x.fmod y = -(-x).fmod (-y) := by rw [Int.neg_fmod_neg, Int.neg_neg]
  have h2 := Int.fmod_nonneg_of_pos (-x) (b := -y) (by omega)
  have h3 := Int.fmod_lt_of_pos (-x) (b := -y) (by omega)
  omega
theorem tmod_np {x : Int} (y : Int) (h : x ≤ 0) : x.tmod y ≤ 0 := by
  have h1 : x.tmod y = -(-x).tmod y := by rw [Int.neg_tmod, Int.neg_neg]
  have h2 := Int.tmod_nonneg y (a := -x) (by omega)
  omega
theorem sq_nonneg (x : Int) : 0 ≤ x * x := by
  rcases Int.le_total 0 x with h | h
  · exact Int.mul_nonneg h h
  · exact Int.mul_nonneg_of_nonpos_of_nonpos h h
theorem fmod_fit {x y : Int} (hy0 : y ≠ 0) (hy : y.natAbs < 10 ^ 200) : (x.fmod y).natAbs < 10 ^ 200 := by
  rcases Int.lt_or_gt_of_ne hy0 with h | h
  · have h1 := fmod_neg_rng x h
    omega
  · have h1 := Int.fmod_nonneg_of_pos x h
    have h2 := Int.fmod_lt_of_pos x h
    omega

section
variable (S T : ByteArray) (x y n : Int) (s t : ByteArray) (k : Int) (w : World)
theorem law_tobase (b : Nat) (hS : NumL S.data.toList x) (hb : 2 ≤ b) (hb2 : b ≤ 36) (hs : ⟨(btext b x).toArray⟩ = s) (ht : Tabs w) : Calls Tryz.prog 150 #[.string S, .int .i64 (b : Int)] w (Ans s 0 w) :=
  (numToBase_c S b hb hb2 w ht).mono fun _ _ h => by
    have h1 := un_at h hS
    rw [← hs]
    exact h1
theorem law_fromint (hn : -9223372036854775808 ≤ n) (hn2 : n ≤ 9223372036854775807) (hs : txt n = s) (ht : Tabs w) : Calls Tryz.prog 82 #[.int .i64 n] w fun e w' => e = .returned (.string s) ∧ Below w.heap.size w w' :=
  (fromInt_c n hn hn2 w ht).mono fun _ _ ⟨h1, h2⟩ => by
    refine ⟨?_, h2⟩
    rw [h1, ← hs, txt, if_pos (by omega)]
end
end Go.Proofs.YtekbfommnmikbaaGreatDoor

namespace Go.Proofs.YtekbfommnmikbaaGreatDoor
set_option linter.unusedVariables false
set_option linter.unusedSimpArgs false
open Go.RowKit Go.Shelf Go.Proofs

theorem num_one : NumL [49] 1 := ⟨by decide +kernel, by decide⟩
section
variable (S T : ByteArray) (x y g : Int) (w : World)
theorem law_cmp_at (hS : NumL S.data.toList x) (hT : NumL T.data.toList y) (hg : sgn (x + -y) = g) (ht : Tabs w) : Calls Tryz.prog 71 #[.string S, .string T] w (AnsI g w) := hg ▸ law_cmp S T x y w hS hT ht
end
theorem sg_pos {x : Int} (h : 0 < x) : sgn x = 1 := by unfold sgn; rw [if_neg (by omega), if_pos h]
theorem sg_neg {x : Int} (h : x < 0) : sgn x = -1 := by unfold sgn; rw [if_pos h]
theorem sg_zero : sgn 0 = 0 := by unfold sgn; rfl
theorem sg_rng (x : Int) : -1 ≤ sgn x ∧ sgn x ≤ 1 := by
  rcases Int.lt_trichotomy x 0 with h | h | h
  · rw [sg_neg h]; omega
  · rw [h, sg_zero]; omega
  · rw [sg_pos h]; omega
theorem sg_lt {x : Int} : sgn x < 0 ↔ x < 0 := by
  rcases Int.lt_trichotomy x 0 with h | h | h
  · rw [sg_neg h]; omega
  · rw [h, sg_zero]
  · rw [sg_pos h]; omega
theorem sg_gt {x : Int} : 0 < sgn x ↔ 0 < x := by
  rcases Int.lt_trichotomy x 0 with h | h | h
  · rw [sg_neg h]; omega
  · rw [h, sg_zero]
  · rw [sg_pos h]; omega
theorem sg_eq {x : Int} : sgn x = 0 ↔ x = 0 := by
  rcases Int.lt_trichotomy x 0 with h | h | h
  · rw [sg_neg h]; omega
  · rw [h, sg_zero]
  · rw [sg_pos h]; omega
theorem sg_opp (x : Int) : sgn (-x) = -sgn x := by
  rcases Int.lt_trichotomy x 0 with h | h | h
  · rw [sg_neg h, sg_pos (by omega)]; rfl
  · subst h; rfl
  · rw [sg_pos h, sg_neg (by omega)]
end Go.Proofs.YtekbfommnmikbaaGreatDoor

