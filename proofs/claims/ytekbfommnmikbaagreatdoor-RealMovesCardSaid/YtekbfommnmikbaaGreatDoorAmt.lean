/- Plain mathematics of exact results: columns, quotients, roots. No program in sight. -/
import Derived.Test.YtekbfommnmikbaaGreatDoorRnd
namespace Go.Proofs.YtekbfommnmikbaaGreatDoor
set_option linter.unusedVariables false
set_option linter.unusedSimpArgs false

/-- All columns are small. -/
def TB (B : Int) (t : List Int) : Prop := ∀ x ∈ t, -B ≤ x ∧ x ≤ B
theorem TB.at_ {B : Int} {t : List Int} (h : TB B t) (hB : 0 ≤ B) (j : Nat) : -B ≤ t[j]?.getD 0 ∧ t[j]?.getD 0 ≤ B := by
  rcases Nat.lt_or_ge j t.length with hj | hj
  · rw [List.getElem?_eq_getElem hj]; exact h _ (List.getElem_mem hj)
  · rw [List.getElem?_eq_none hj]; exact ⟨by simp; omega, hB⟩
theorem TB.set {B C : Int} {t : List Int} (h : TB B t) (hBC : B ≤ C) (j : Nat) {x : Int} (h1 : -C ≤ x) (h2 : x ≤ C) : TB C (t.set j x) := fun y hy => by
  rcases List.mem_or_eq_of_mem_set hy with h3 | rfl
  · have := h y h3; exact ⟨by omega, by omega⟩
  · exact ⟨h1, h2⟩
theorem TB.mono {B C : Int} {t : List Int} (h : TB B t) (hBC : B ≤ C) : TB C t := fun y hy => by have := h y hy; exact ⟨by omega, by omega⟩
theorem TB.zeros (n : Nat) : TB 0 (List.replicate n 0) := fun x hx => by rw [(List.mem_replicate.1 hx).2]; exact ⟨by omega, by omega⟩
/-- One digit is entered. -/
theorem enter_val {t : List Int} {i : Nat} (hi : i < t.length) (y : Int) : val 10 (t.set i (t[i]?.getD 0 + y)) = val 10 t + 10 ^ i * y := by
  rw [val_set 10 t i _ hi, List.getD_eq_getElem?_getD]
  congr 2
  omega
theorem enter_step {t : List Int} {ds : List Int} {i k L : Nat} {V0 f d : Int} (hL : ds.length = L) (hi : i < L) (hd : ds[i]?.getD 0 = d) (hk : k + (L - 1 - i) < t.length)
    (hv : val 10 t = V0 + f * vd (ds.take i) * 10 ^ (k + (L - i))) :
    val 10 (t.set (k + (L - 1 - i)) (t[k + (L - 1 - i)]?.getD 0 + f * d)) = V0 + f * vd (ds.take (i + 1)) * 10 ^ (k + (L - (i + 1))) := by
  rw [enter_val hk, hv]
  have e : ds.take (i + 1) = ds.take i ++ [d] := by
    rw [List.take_add_one, ← hd, List.getElem?_eq_getElem (by omega)]; rfl
  rw [e, vd_snoc, show k + (L - i) = (k + (L - 1 - i)) + 1 by omega, show k + (L - (i + 1)) = k + (L - 1 - i) by omega, Int.pow_succ]
  grind

/-- The columns are brought to digits. -/
theorem carry_step {t u : List Int} {i : Nat} {V o n : Int} (hi : i < t.length) (hl : u.length = i) (hu : InR 10 u) (hv : val 10 u + 10 ^ i * (o + val 10 (t.drop i)) = V) (hn : n = t[i]?.getD 0 + o) :
    InR 10 (u ++ [n - 10 * (n.fdiv 10)]) ∧ val 10 (u ++ [n - 10 * (n.fdiv 10)]) + 10 ^ (i + 1) * (n.fdiv 10 + val 10 (t.drop (i + 1))) = V := by
  have h1 : n - 10 * (n.fdiv 10) = n.fmod 10 := by have := Int.mul_fdiv_add_fmod n 10; omega
  have h2 : 0 ≤ n.fmod 10 := Int.fmod_nonneg_of_pos _ (by decide)
  have h3 : n.fmod 10 < 10 := Int.fmod_lt_of_pos _ (by decide)
  refine ⟨hu.snoc (by omega) (by show n - 10 * n.fdiv 10 < 10; omega), ?_⟩
  rw [val_snoc, hl, ← hv, val_drop 10 t i hi, List.getD_eq_getElem?_getD, Int.pow_succ]
  have e : t[i]?.getD 0 = n - o := by omega
  rw [e]
  show _ = _
  have : ((10 : Nat) : Int) = 10 := rfl
  rw [this]
  grind
theorem carry_end {t u : List Int} {L : Nat} {V o : Int} (hl : u.length = L) (ht : t.length = L) (hu : InR 10 u) (hv : val 10 u + 10 ^ L * (o + val 10 (t.drop L)) = V) : val 10 u + 10 ^ L * o = V := by
  rw [List.drop_eq_nil_of_le (by omega), val_nil] at hv
  rw [← hv]; simp
theorem carry_over {u : List Int} {L : Nat} {V o : Int} (hl : u.length = L) (hu : InR 10 u) (hv : val 10 u + 10 ^ L * o = V) : (0 ≤ V → V < 10 ^ L → o = 0 ∧ val 10 u = V) ∧ (V < 0 → -(10 ^ L) ≤ V → o = -1 ∧ val 10 u = V + 10 ^ L) := by
  have h1 := val_nonneg hu
  have h2 : val 10 u < 10 ^ L := by have := val_lt hu; rw [hl] at this; exact this
  have hp : (0 : Int) < 10 ^ L := Int.pow_pos (by omega)
  generalize (10 : Int) ^ L = P at *
  constructor
  · intro a b
    have c1 : ¬ 1 ≤ o := fun c => by have := Int.mul_le_mul_of_nonneg_left c (Int.le_of_lt hp); omega
    have c2 : ¬ o ≤ -1 := fun c => by have := Int.mul_le_mul_of_nonneg_left c (Int.le_of_lt hp); omega
    obtain rfl : o = 0 := by omega
    exact ⟨rfl, by omega⟩
  · intro a b
    have c1 : ¬ 0 ≤ o := fun c => by have := Int.mul_le_mul_of_nonneg_left c (Int.le_of_lt hp); omega
    have c2 : ¬ o ≤ -2 := fun c => by have := Int.mul_le_mul_of_nonneg_left c (Int.le_of_lt hp); omega
    obtain rfl : o = -1 := by omega
    exact ⟨rfl, by omega⟩
theorem val_neg (b : Nat) (l : List Int) : val b (l.map fun x => -x) = -val b l := by
  induction l with
  | nil => rfl
  | cons d l ih => rw [List.map_cons, val_cons, val_cons, ih]; grind
/-- The digits of the magnitude, in L columns. -/
theorem total_pos {u : List Int} {L : Nat} {V : Int} (hu : InR 10 u) (hv : val 10 u = V) : InR 10 u.reverse ∧ vd u.reverse = V := ⟨inR_reverse hu, by rw [vd_rev, hv]⟩

/-- A quotient's digits. -/
theorem quo_step {m n D r j : Nat} (hn : 0 < n) (h : D * n + r = m * 10 ^ j) (hr : r < n) : (10 * D + r * 10 / n) * n + r * 10 % n = m * 10 ^ (j + 1) := by
  have h1 := Nat.div_add_mod (r * 10) n
  rw [Nat.pow_succ, ← Nat.mul_assoc, ← h, Nat.add_mul, Nat.add_mul]
  have : n * (r * 10 / n) = r * 10 / n * n := Nat.mul_comm _ _
  have e2 : D * n * 10 = 10 * D * n := by grind
  omega
theorem quo_dig {r n : Nat} (hn : 0 < n) (hr : r < n) : r * 10 / n < 10 := by
  rw [Nat.div_lt_iff_lt_mul hn]; omega
theorem quo_done {m n D r j : Nat} (h : D * n + r = m * 10 ^ j) (hr : r < n) : D = m * 10 ^ j / n ∧ r = m * 10 ^ j % n := by
  rw [← h]
  have hn : 0 < n := by omega
  constructor
  · rw [Nat.add_comm, Nat.add_mul_div_right _ _ hn, Nat.div_eq_of_lt hr]; omega
  · rw [Nat.add_comm, Nat.add_mul_mod_self_right, Nat.mod_eq_of_lt hr]

/-- A root's digits: R is the root of P, S what is left. -/
def RootAt (P R S : Nat) : Prop := R * R + S = P ∧ S ≤ 2 * R
theorem rootAt_zero : RootAt 0 0 0 := ⟨rfl, Nat.le_refl _⟩
theorem rootAt_step {P R S p d : Nat} (h : RootAt P R S) (hp : p < 100) (hd : d ≤ 9) (h1 : (20 * R + d) * d ≤ S * 100 + p) (h2 : d = 9 ∨ S * 100 + p < (20 * R + (d + 1)) * (d + 1)) :
    RootAt (P * 100 + p) (10 * R + d) (S * 100 + p - (20 * R + d) * d) := by
  obtain ⟨e, hs⟩ := h
  have e1 : (10 * R + d) * (10 * R + d) = 100 * (R * R) + (20 * R + d) * d := by grind
  refine ⟨by rw [e1]; omega, ?_⟩
  rcases h2 with rfl | h2
  · have : (20 * R + 9) * 9 = 180 * R + 81 := by omega
    omega
  · have : (20 * R + (d + 1)) * (d + 1) = (20 * R + d) * d + (20 * R + d) + (d + 1) := by grind
    omega
theorem rootAt_le {P R S : Nat} (h : RootAt P R S) : R * R ≤ P ∧ P < (R + 1) * (R + 1) := by
  obtain ⟨e, hs⟩ := h
  have : (R + 1) * (R + 1) = R * R + 2 * R + 1 := by grind
  omega
/-- The digit that fits, from 9 down. -/
theorem digit_ex (R S : Nat) : ∃ d, d ≤ 9 ∧ (20 * R + d) * d ≤ S ∧ (d = 9 ∨ S < (20 * R + (d + 1)) * (d + 1)) := by
  by_cases h9 : (20 * R + 9) * 9 ≤ S
  · exact ⟨9, by omega, h9, .inl rfl⟩
  have key : ∀ k, k ≤ 9 → ¬ (20 * R + k) * k ≤ S → ∃ d, d ≤ 9 ∧ (20 * R + d) * d ≤ S ∧ (d = 9 ∨ S < (20 * R + (d + 1)) * (d + 1)) := by
    intro k
    induction k with
    | zero => intro _ h; exact absurd (by simp) h
    | succ k ih =>
      intro hk h
      by_cases hc : (20 * R + k) * k ≤ S
      · exact ⟨k, by omega, hc, .inr (by omega)⟩
      · exact ih (by omega) hc
  exact key 9 (Nat.le_refl _) h9

end Go.Proofs.YtekbfommnmikbaaGreatDoor
