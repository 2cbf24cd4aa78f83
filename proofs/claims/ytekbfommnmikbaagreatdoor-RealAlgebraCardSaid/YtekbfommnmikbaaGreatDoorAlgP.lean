/- Plain laws of sums, products and quotients of reals. -/
import Derived.Test.YtekbfommnmikbaaGreatDoorShiftsL
namespace Go.Proofs.YtekbfommnmikbaaGreatDoor
set_option linter.unusedVariables false
set_option linter.unusedSimpArgs false
open Go.RowKit Go.Shelf Go.Proofs

theorem sumV_two (a b : Int × Int) : sumV [a, b] = a.1 * 10 ^ (a.2 + 222).toNat + b.1 * 10 ^ (b.2 + 222).toNat := by
  show a.1 * 10 ^ (a.2 + 222).toNat + (b.1 * 10 ^ (b.2 + 222).toNat + 0) = _
  rw [Int.add_zero]
theorem sumV_comm (a b : Int × Int) : sumV [a, b] = sumV [b, a] := by rw [sumV_two, sumV_two, Int.add_comm]
theorem sumR_comm (a b : Int × Int) : sumR [a, b] = sumR [b, a] := by unfold sumR; rw [sumV_comm]
theorem sumV_append (l m : List (Int × Int)) : sumV (l ++ m) = sumV l + sumV m := by
  induction l with
  | nil => simp [sumV]
  | cons q l ih => rw [List.cons_append, sumV, ih, sumV]; omega
theorem sumV_reverse (l : List (Int × Int)) : sumV l.reverse = sumV l := by
  induction l with
  | nil => rfl
  | cons q l ih => rw [List.reverse_cons, sumV_snoc, ih, sumV]; omega
theorem sumX_reverse (l : List (Int × Int)) : sumX l.reverse = sumX l := by
  unfold sumX okL sumR
  rw [List.length_reverse, List.all_reverse, sumV_reverse]
theorem doneR_ok {xm xe ym ye r : Int} {R : Value} (hx : RV xm.natAbs xe) (hy : RV ym.natAbs ye) (hr : r = 0) : doneR xm xe ym ye r R = R := by
  unfold doneR
  rw [if_pos ⟨hx, hy⟩, if_pos hr]
theorem prodR_comm (xm xe ym ye : Int) : prodR xm xe ym ye = prodR ym ye xm xe := by
  unfold prodR
  rw [Nat.mul_comm xm.natAbs, Int.add_comm xe, show (decide (xm < 0) != decide (ym < 0)) = (decide (ym < 0) != decide (xm < 0)) from by cases decide (xm < 0) <;> cases decide (ym < 0) <;> rfl]
/-- A real times a power of 10, as the sums have it. -/
theorem rnd_shift {m : Nat} {e : Int} (h : RV m e) : rnd (m * 10 ^ (e + 222).toNat) (-222) = some (m, e) := by
  have hb := RV_abs (m := (m : Int)) h
  obtain ⟨k, hk⟩ : ∃ k : Nat, e + 222 = (k : Int) := ⟨(e + 222).toNat, by omega⟩
  rw [hk, Int.toNat_natCast]
  have h1 := rnd_mul m k e
  rw [show e - (k : Int) = -222 by omega] at h1
  rw [h1]
  exact rnd_self h
theorem add_zero_R {xm xe : Int} (h : RV xm.natAbs xe) : sumR [(xm, xe), (0, 0)] = .tuple #[.agg #[.int .i64 xm, .int .i64 xe], .int .i64 0] := by
  have hp : (0 : Int) < 10 ^ (xe + 222).toNat := Int.pow_pos (by omega)
  have e1 : sumV [(xm, xe), (0, 0)] = xm * 10 ^ (xe + 222).toNat := by rw [sumV_two]; simp
  have e2 : (xm * 10 ^ (xe + 222).toNat).natAbs = xm.natAbs * 10 ^ (xe + 222).toNat := by rw [Int.natAbs_mul, Int.natAbs_pow]; rfl
  have e3 : decide (xm * 10 ^ (xe + 222).toNat < 0) = decide (xm < 0) := by
    apply decide_eq_decide.2
    constructor
    · intro h1
      rcases Int.lt_or_le xm 0 with h2 | h2
      · exact h2
      · have := Int.mul_nonneg h2 (Int.le_of_lt hp); omega
    · intro h1
      exact Int.mul_neg_of_neg_of_pos h1 hp
  unfold sumR
  rw [e1, e2, e3, rnd_shift h, resR_some, sgm_self]
theorem mul_one_R {xm xe : Int} (h : RV xm.natAbs xe) : prodR xm xe 100000000000 (-11) = .tuple #[.agg #[.int .i64 xm, .int .i64 xe], .int .i64 0] := by
  have hb := RV_abs h
  obtain ⟨k, hk⟩ : ∃ k : Nat, xe + 222 = (k : Int) + 11 := ⟨(xe + 211).toNat, by omega⟩
  have e1 : xm.natAbs * (100000000000 : Int).natAbs * 10 ^ (xe + -11 + 222).toNat = xm.natAbs * 10 ^ (xe + 222).toNat := by
    rw [show xe + -11 + 222 = (k : Int) by omega, show xe + 222 = ((k + 11 : Nat) : Int) by omega, Int.toNat_natCast, Int.toNat_natCast, Nat.pow_add, Nat.mul_assoc]
    congr 1
    rw [Nat.mul_comm]; rfl
  unfold prodR
  rw [e1, rnd_shift h, resR_some, show (decide (xm < 0) != decide ((100000000000 : Int) < 0)) = decide (xm < 0) from by cases decide (xm < 0) <;> rfl, sgm_self]
theorem sub_self_R (xm xe : Int) : sumR [(xm, xe), (-xm, xe)] = .tuple #[.agg #[.int .i64 0, .int .i64 0], .int .i64 0] := by
  have e1 : sumV [(xm, xe), (-xm, xe)] = 0 := by rw [sumV_two]; dsimp only; rw [Int.neg_mul]; omega
  unfold sumR
  rw [e1, show (0 : Int).natAbs = 0 from rfl, rnd_zero]; rfl
set_option maxHeartbeats 2000000 in
theorem div_self_R {xm xe : Int} (h : RV xm.natAbs xe) (h0 : xm ≠ 0) : quoR xm xe xm xe = .tuple #[.agg #[.int .i64 100000000000, .int .i64 (-11)], .int .i64 0] := by
  have hp : 0 < xm.natAbs := by omega
  obtain ⟨h1, h2⟩ := firsts_q (m := xm.natAbs) (n := xm.natAbs) hp 13
  have h3 : lastMore (qitem xm.natAbs xm.natAbs) 14 = false := by
    rw [show (14 : Nat) = 13 + 1 from rfl, lastMore]
    unfold qitem
    dsimp only
    rw [h2, Nat.mul_mod_right]; rfl
  have h4 : vd (firsts (qitem xm.natAbs xm.natAbs) 14) = ((10 ^ 13 : Nat) : Int) := by rw [h1, Nat.mul_div_cancel_left _ hp]
  have h5 : rnd (10 ^ 13) (-13) = some (100000000000, -11) := by decide +kernel
  unfold quoR quoV
  rw [h3, show withMore (firsts (qitem xm.natAbs xm.natAbs) 14) false = firsts (qitem xm.natAbs xm.natAbs) 14 from rfl, h4, Int.toNat_natCast, show expMore (xe - xe - 13) false = -13 from by show xe - xe - 13 = -13; omega, h5, resR_some, show (decide (xm < 0) != decide (xm < 0)) = false from by cases decide (xm < 0) <;> rfl]
  rfl
/-- A difference turned around. -/
theorem sub_turned (xm xe ym ye : Int) : sumV [(ym, ye), (-xm, xe)] = -sumV [(xm, xe), (-ym, ye)] := by
  rw [sumV_two, sumV_two]; dsimp only; rw [Int.neg_mul, Int.neg_mul]; omega
/-- x - y and y - x: no value both, or opposite ones. -/
theorem sub_pair (xm xe ym ye : Int) : (sumR [(xm, xe), (-ym, ye)] = .tuple #[.agg #[.int .i64 0, .int .i64 0], .int .i64 3] ∧ sumR [(ym, ye), (-xm, xe)] = .tuple #[.agg #[.int .i64 0, .int .i64 0], .int .i64 3]) ∨
    ∃ a e : Int, RV a.natAbs e ∧ sumR [(xm, xe), (-ym, ye)] = .tuple #[.agg #[.int .i64 a, .int .i64 e], .int .i64 0] ∧ sumR [(ym, ye), (-xm, xe)] = .tuple #[.agg #[.int .i64 (-a), .int .i64 e], .int .i64 0] := by
  unfold sumR
  rw [sub_turned xm xe ym ye, Int.natAbs_neg]
  obtain ⟨S, hS⟩ : ∃ S, sumV [(xm, xe), (-ym, ye)] = S := ⟨_, rfl⟩
  rw [hS]
  cases ho : rnd S.natAbs (-222) with
  | none => exact .inl ⟨rfl, rfl⟩
  | some p =>
    obtain ⟨M, E⟩ := p
    have hv := rnd_valid ho
    refine .inr ⟨sgm (decide (S < 0)) M, E, ?_, rfl, ?_⟩
    · have : (sgm (decide (S < 0)) (M : Int)).natAbs = M := by unfold sgm; split <;> omega
      rw [this]; exact hv
    · rw [resR_some]
      have e : sgm (decide (-S < 0)) (M : Int) = -sgm (decide (S < 0)) (M : Int) := by
        rcases Int.lt_trichotomy S 0 with h | h | h
        · rw [decide_eq_true h, decide_eq_false (show ¬ -S < 0 by omega)]; unfold sgm; simp
        · subst h
          rw [show (0 : Int).natAbs = 0 from rfl, rnd_zero] at ho
          cases ho
          rfl
        · rw [decide_eq_false (show ¬ S < 0 by omega), decide_eq_true (show -S < 0 by omega)]; unfold sgm; simp
      rw [e]
end Go.Proofs.YtekbfommnmikbaaGreatDoor
