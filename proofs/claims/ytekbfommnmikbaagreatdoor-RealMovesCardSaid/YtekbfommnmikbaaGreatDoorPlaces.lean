/- Plain laws of the places of reals. -/
import Derived.Test.YtekbfommnmikbaaGreatDoorRealR
namespace Go.Proofs.YtekbfommnmikbaaGreatDoor
set_option linter.unusedVariables false
set_option linter.unusedSimpArgs false
open Go.RowKit Go.Shelf Go.Proofs

theorem byP_eq {n : Int} (h0 : 0 < n) (h1 : n ≤ 180000000000000) : ∃ r q : Int, byP n = (100000000000 + r, -111 + q) ∧ 0 ≤ r ∧ r < 900000000000 ∧ 0 ≤ q ∧ q < 200 ∧ n - 1 = 900000000000 * q + r := by
  unfold byP
  obtain ⟨k, hk⟩ := Int.eq_ofNat_of_zero_le (show 0 ≤ n - 1 by omega)
  rw [hk]
  have e1 := tmod_nat k 900000000000
  have e2 := tdiv_nat k 900000000000
  rw [show ((900000000000 : Nat) : Int) = 900000000000 from rfl] at e1 e2
  rw [e1, e2]
  refine ⟨_, _, rfl, ?_⟩
  have hb1 : k % 900000000000 < 900000000000 := Nat.mod_lt _ (by decide)
  have hb2 : k / 900000000000 < 200 := by omega
  have hb3 := Nat.div_add_mod k 900000000000
  generalize k % 900000000000 = r at *
  generalize k / 900000000000 = q at *
  omega
theorem plP_byP {n : Int} (h0 : 0 < n) (h1 : n ≤ 180000000000000) : plP (byP n).1.natAbs (byP n).2 = n := by
  obtain ⟨r, q, e, a, b, c, d, f⟩ := byP_eq h0 h1
  rw [e]
  unfold plP
  dsimp only
  omega
theorem byP_plP {m : Nat} {e : Int} (h1 : 100000000000 ≤ m) (h2 : m < 1000000000000) (h3 : -111 ≤ e) (h4 : e ≤ 88) : byP (plP m e) = ((m : Int), e) := by
  have h0 : 0 < plP m e ∧ plP m e ≤ 180000000000000 := by unfold plP; omega
  obtain ⟨r, q, eq, a, b, c, d, f⟩ := byP_eq h0.1 h0.2
  rw [eq]
  unfold plP at f
  have hq : q = e + 111 := by omega
  subst hq
  have hr : r = (m : Int) - 100000000000 := by omega
  subst hr
  congr 1 <;> omega
theorem byR_cases {k : Int} (h0 : -180000000000000 ≤ k) (h1 : k ≤ 180000000000000) : RV (byR k).1.natAbs (byR k).2 ∧ plR (byR k).1 (byR k).2 = k ∧ ((byR k).1 < 0 ↔ k < 0) ∧ ((byR k).1 = 0 ↔ k = 0) := by
  unfold byR
  by_cases e0 : k = 0
  · subst e0
    rw [if_pos rfl]
    exact ⟨.inl ⟨rfl, rfl⟩, rfl, ⟨fun h => h, fun h => h⟩, ⟨fun _ => rfl, fun _ => rfl⟩⟩
  rw [if_neg e0]
  by_cases e1 : k < 0
  · rw [if_pos e1]
    obtain ⟨b0, b1, b2, b3⟩ := byP_bounds (n := -k) (by omega) (by omega)
    have h := plP_byP (n := -k) (by omega) (by omega)
    obtain ⟨⟨M, E⟩, hM⟩ : ∃ p, byP (-k) = p := ⟨_, rfl⟩
    rw [hM] at b0 b1 b2 b3 h ⊢
    dsimp only at *
    refine ⟨.inr (by omega), ?_, by omega, by omega⟩
    unfold plR
    rw [if_neg (by omega), if_pos (by omega), Int.natAbs_neg, h]
    omega
  · rw [if_neg e1]
    obtain ⟨b0, b1, b2, b3⟩ := byP_bounds (n := k) (by omega) (by omega)
    have h := plP_byP (n := k) (by omega) (by omega)
    obtain ⟨⟨M, E⟩, hM⟩ : ∃ p, byP k = p := ⟨_, rfl⟩
    rw [hM] at b0 b1 b2 b3 h ⊢
    dsimp only at *
    refine ⟨.inr (by omega), ?_, by omega, by omega⟩
    unfold plR
    rw [if_neg (by omega), if_neg (by omega), h]
theorem byR_plR {m e : Int} (h : RV m.natAbs e) : byR (plR m e) = (m, e) := by
  unfold plR
  by_cases e0 : m = 0
  · subst e0
    rw [if_pos rfl]
    have : e = 0 := by unfold RV at h; omega
    subst this
    rfl
  rw [if_neg e0]
  have hr : 100000000000 ≤ m.natAbs ∧ m.natAbs < 1000000000000 ∧ -111 ≤ e ∧ e ≤ 88 := by unfold RV at h; omega
  have hb := byP_plP hr.1 hr.2.1 hr.2.2.1 hr.2.2.2
  have hp : 0 < plP m.natAbs e := by unfold plP; omega
  by_cases e1 : m < 0
  · rw [if_pos e1]
    unfold byR
    rw [if_neg (by omega), if_pos (by omega), Int.neg_neg, hb]
    congr 1
    show -((m.natAbs : Nat) : Int) = m
    omega
  · rw [if_neg e1]
    unfold byR
    rw [if_neg (by omega), if_neg (by omega), hb]
    congr 1
    omega
theorem plR_inj {m e m' e' : Int} (h : RV m.natAbs e) (h' : RV m'.natAbs e') (hp : plR m e = plR m' e') : m = m' ∧ e = e' := by
  have h1 := byR_plR h
  rw [hp, byR_plR h'] at h1
  exact ⟨(congrArg Prod.fst h1).symm, (congrArg Prod.snd h1).symm⟩
theorem stepR_in {m e n : Int} (h : RV m.natAbs e) (h0 : -180000000000000 ≤ plR m e + n) (h1 : plR m e + n ≤ 180000000000000) : stepR m e n = .tuple #[.agg #[.int .i64 (byR (plR m e + n)).1, .int .i64 (byR (plR m e + n)).2], .int .i64 0] := by
  obtain ⟨b1, b2⟩ := plR_bounds h
  unfold stepR
  rw [if_neg (fun x => x h), if_neg (by omega), if_neg (by omega)]
theorem stepR_out {m e n : Int} (h : RV m.natAbs e) (h0 : 180000000000000 < plR m e + n ∨ plR m e + n < -180000000000000) : stepR m e n = .tuple #[.agg #[.int .i64 0, .int .i64 0], .int .i64 3] := by
  unfold stepR
  rw [if_neg (fun x => x h), if_pos h0, ite_self]
end Go.Proofs.YtekbfommnmikbaaGreatDoor
