/- Plain mathematics of powers, roots and divisors. No program in sight. -/
import Derived.Test.YtbjgpbdkofadiaaGreatDoorMath
namespace Go.Proofs.YtbjgpbdkofadiaaGreatDoor
set_option linter.unusedVariables false
set_option linter.unusedSimpArgs false

/-- Twice the root of a product is at most the sum. -/
theorem four_mul_le (x y : Nat) : 4 * (x * y) ≤ (x + y) * (x + y) := by
  rcases Nat.le_total x y with h | h
  · obtain ⟨d, rfl⟩ := Nat.exists_eq_add_of_le h
    have : (x + (x + d)) * (x + (x + d)) = 4 * (x * (x + d)) + d * d := by grind
    omega
  · obtain ⟨d, rfl⟩ := Nat.exists_eq_add_of_le h
    have : (y + d + y) * (y + d + y) = 4 * ((y + d) * y) + d * d := by grind
    omega

/-- A step from above stays above. -/
theorem newton_ge {n x r : Nat} (hr : r * r ≤ n) (hx : 0 < x) : r ≤ (x + n / x) / 2 := by
  rcases Nat.lt_or_ge ((x + n / x) / 2) r with h | h
  · exfalso
    have h1 : x + (n / x + 1) ≤ 2 * r := by omega
    have h2 : n < x * (n / x + 1) := by
      have := Nat.div_add_mod n x
      have := Nat.mod_lt n hx
      rw [Nat.mul_add]; omega
    have h3 := four_mul_le x (n / x + 1)
    have h4 : (x + (n / x + 1)) * (x + (n / x + 1)) ≤ 2 * r * (2 * r) := Nat.mul_le_mul h1 h1
    have h5 : 2 * r * (2 * r) = 4 * (r * r) := by grind
    omega
  · exact h

/-- Where a step does not become less, this is the root. -/
theorem newton_done {n x r : Nat} (hr2 : n < (r + 1) * (r + 1)) (hx : 0 < x) (hrx : r ≤ x) (h : x ≤ (x + n / x) / 2) : x = r := by
  have h1 : x ≤ n / x := by omega
  have h2 : x * x ≤ n := (Nat.le_div_iff_mul_le hx).1 h1
  rcases Nat.lt_or_ge r x with h3 | h3
  · exfalso
    have : (r + 1) * (r + 1) ≤ x * x := Nat.mul_le_mul h3 h3
    omega
  · omega

/-- There is a root. -/
theorem root_ex (n : Nat) : ∃ r, r * r ≤ n ∧ n < (r + 1) * (r + 1) := by
  induction n with
  | zero => exact ⟨0, by omega, by omega⟩
  | succ n ih =>
    obtain ⟨r, h1, h2⟩ := ih
    rcases Nat.lt_or_ge (n + 1) ((r + 1) * (r + 1)) with h | h
    · exact ⟨r, by omega, h⟩
    · refine ⟨r + 1, h, ?_⟩
      have : (r + 1 + 1) * (r + 1 + 1) = (r + 1) * (r + 1) + 2 * (r + 1) + 1 := by grind
      omega
theorem root_unique {n r s : Nat} (h1 : r * r ≤ n) (h2 : n < (r + 1) * (r + 1)) (k1 : s * s ≤ n) (k2 : n < (s + 1) * (s + 1)) : r = s := by
  rcases Nat.lt_trichotomy r s with h | h | h
  · have : (r + 1) * (r + 1) ≤ s * s := Nat.mul_le_mul h h
    omega
  · exact h
  · have : (s + 1) * (s + 1) ≤ r * r := Nat.mul_le_mul h h
    omega
/-- The square root, rounded down. -/
noncomputable def root (n : Nat) : Nat := (root_ex n).choose
theorem root_le (n : Nat) : root n * root n ≤ n := (root_ex n).choose_spec.1
theorem root_lt (n : Nat) : n < (root n + 1) * (root n + 1) := (root_ex n).choose_spec.2
theorem root_eq {n r : Nat} (h1 : r * r ≤ n) (h2 : n < (r + 1) * (r + 1)) : root n = r := root_unique (root_le n) (root_lt n) h1 h2
theorem root_self_le (n : Nat) : root n ≤ n := by
  have := root_le n
  rcases Nat.eq_zero_or_pos (root n) with h | h
  · omega
  · exact Nat.le_trans (Nat.le_mul_of_pos_left _ h) this

/-- Powers grow. -/
theorem pow_grow {x : Int} {i n : Nat} (hx : 1 ≤ x.natAbs) (h : i ≤ n) : (x ^ i).natAbs ≤ (x ^ n).natAbs := by
  rw [Int.natAbs_pow, Int.natAbs_pow]
  exact Nat.pow_le_pow_right hx h

/-- A power of 0, 1 or -1. -/
theorem pow_small {x : Int} {n : Nat} (hx : x.natAbs ≤ 1) (hn : 0 < n) : x ^ n = if x < 0 ∧ n % 2 = 1 then -1 else if x = 0 then 0 else 1 := by
  have : x = 0 ∨ x = 1 ∨ x = -1 := by omega
  rcases this with rfl | rfl | rfl
  · rw [Int.zero_pow (by omega)]; simp
  · rw [Int.one_pow]; simp
  · have h : n = 2 * (n / 2) + n % 2 := by omega
    have h2 : (-1 : Int) ^ (2 * (n / 2)) = 1 := by rw [Int.pow_mul]; simp [Int.one_pow]
    rw [h, Int.pow_add, h2]
    rcases Nat.mod_two_eq_zero_or_one n with h3 | h3
    · rw [h3]; simp
    · rw [h3]; simp

/-- One step of Euclid's way, with the first number's factor. -/
structure Eu (a0 b0 a b : Nat) (one zero : Int) : Prop where
  gcd : Nat.gcd a b = Nat.gcd a0 b0
  fa : ∃ s, one * (a0 : Int) + s * (b0 : Int) = (a : Int)
  fb : ∃ t, zero * (a0 : Int) + t * (b0 : Int) = (b : Int)
  size : zero.natAbs * a + one.natAbs * b ≤ b0
  one_ : one.natAbs ≤ b0 + 1
  az : a ≤ a0 + b0
  bz : b ≤ a0 + b0

theorem Eu.start (a b : Nat) : Eu a b a b 1 0 := ⟨rfl, ⟨0, by simp⟩, ⟨1, by simp⟩, by simp, by simp, by omega, by omega⟩
theorem Eu.zero_le {a0 b0 a b : Nat} {one zero : Int} (h : Eu a0 b0 a b one zero) (ha : 0 < a) : zero.natAbs ≤ b0 := by
  have h1 := h.size
  have h2 : zero.natAbs * 1 ≤ zero.natAbs * a := Nat.mul_le_mul_left _ ha
  omega
theorem Eu.next_le {a0 b0 a b : Nat} {one zero : Int} (h : Eu a0 b0 a b one zero) (hb : 0 < b) : (one + -(zero * ((a / b : Nat) : Int))).natAbs * b + zero.natAbs * (a % b) ≤ b0 := by
  have h1 : (one + -(zero * ((a / b : Nat) : Int))).natAbs ≤ one.natAbs + zero.natAbs * (a / b) := by
    refine Nat.le_trans (Int.natAbs_add_le _ _) ?_
    rw [Int.natAbs_neg, Int.natAbs_mul, Int.natAbs_natCast]; exact Nat.le_refl _
  have h2 : (one + -(zero * ((a / b : Nat) : Int))).natAbs * b ≤ (one.natAbs + zero.natAbs * (a / b)) * b := Nat.mul_le_mul_right _ h1
  have h3 := h.size
  have h4 := Nat.div_add_mod a b
  have h5 : (one.natAbs + zero.natAbs * (a / b)) * b + zero.natAbs * (a % b) = zero.natAbs * (b * (a / b) + a % b) + one.natAbs * b := by
    rw [Nat.add_mul, Nat.mul_add, Nat.mul_assoc, Nat.mul_comm (a / b) b]; omega
  rw [h4] at h5
  omega
theorem Eu.prod_le {a0 b0 a b : Nat} {one zero : Int} (h : Eu a0 b0 a b one zero) (hb : 0 < b) : (zero * ((a / b : Nat) : Int)).natAbs ≤ b0 := by
  rw [Int.natAbs_mul, Int.natAbs_natCast]
  have h1 : zero.natAbs * (a / b) ≤ zero.natAbs * a := Nat.mul_le_mul_left _ (Nat.div_le_self _ _)
  have := h.size
  omega
theorem Eu.step {a0 b0 a b : Nat} {one zero : Int} (h : Eu a0 b0 a b one zero) (hb : 0 < b) (hz : zero.natAbs ≤ b0 + 1) : Eu a0 b0 b (a % b) zero (one + -(zero * ((a / b : Nat) : Int))) := by
  obtain ⟨s, hs⟩ := h.fa
  obtain ⟨t, ht⟩ := h.fb
  refine ⟨?_, ⟨t, ht⟩, ⟨s + -(t * ((a / b : Nat) : Int)), ?_⟩, ?_, hz, h.bz, Nat.le_trans (Nat.mod_le _ _) h.az⟩
  · rw [← h.gcd, Nat.gcd_comm b, ← Nat.gcd_rec b a, Nat.gcd_comm]
  · have h4 : ((a : Nat) : Int) = (b : Int) * ((a / b : Nat) : Int) + ((a % b : Nat) : Int) := by exact_mod_cast (Nat.div_add_mod a b).symm
    have : ((a % b : Nat) : Int) = (a : Int) - (b : Int) * ((a / b : Nat) : Int) := by omega
    rw [this, ← hs, ← ht]; grind
  · exact h.next_le hb

/-- What the greatest common divisor's factors are. -/
structure GcdP (a b g X Y : Int) : Prop where
  g_ : g = (Int.gcd a b : Int)
  sum : X * a + Y * b = g
  low : b ≠ 0 → 0 ≤ X
  high : b ≠ 0 → X < ((b.natAbs / Int.gcd a b : Nat) : Int)
  none : b = 0 → X = a.sign ∧ Y = 0
  size : Y.natAbs ≤ a.natAbs ∨ Y.natAbs ≤ 1

theorem gcd_quo {a b : Int} (hb : b ≠ 0) : 0 < b.natAbs / Int.gcd a b ∧ (b.natAbs / Int.gcd a b) * Int.gcd a b = b.natAbs := by
  have h1 : Int.gcd a b ∣ b.natAbs := Nat.gcd_dvd_right _ _
  have h2 : 0 < b.natAbs := by omega
  have h3 : 0 < Int.gcd a b := Nat.gcd_pos_of_pos_right _ h2
  exact ⟨Nat.div_pos (Nat.le_of_dvd h2 h1) h3, Nat.div_mul_cancel h1⟩

/-- The factors, made small. -/
theorem gcd_factors {a b x : Int} (hb : b ≠ 0) (hx : ∃ s, x * a + s * b = (Int.gcd a b : Int)) (X Y : Int) (hX : X = x.fmod ((b.natAbs / Int.gcd a b : Nat) : Int)) (hY : Y = ((Int.gcd a b : Int) + -(X * a)).tdiv b) :
    GcdP a b (Int.gcd a b) X Y ∧ X.natAbs ≤ b.natAbs := by
  obtain ⟨h1, h2⟩ := gcd_quo (a := a) hb
  obtain ⟨s, hs⟩ := hx
  generalize hG : Int.gcd a b = G at *
  generalize hM : b.natAbs / G = M at *
  have hG0 : 0 < G := by
    rcases Nat.eq_zero_or_pos G with h | h
    · rw [h] at h2; omega
    · exact h
  have hMp : (0 : Int) < (M : Int) := by omega
  have hlo : 0 ≤ X := by rw [hX]; exact Int.fmod_nonneg_of_pos _ hMp
  have hhi : X < (M : Int) := by rw [hX]; exact Int.fmod_lt_of_pos _ hMp
  have hMG : (M : Int) * (G : Int) = (b.natAbs : Int) := by exact_mod_cast h2
  obtain ⟨a', ha⟩ : ∃ a', a = (G : Int) * a' := by
    have : (G : Int) ∣ a := by rw [← hG]; exact Int.gcd_dvd_left ..
    exact this
  obtain ⟨q, hq⟩ : ∃ q : Int, x = X + M * q := ⟨x.fdiv M, by rw [hX]; have := Int.mul_fdiv_add_fmod x M; omega⟩
  obtain ⟨e, he⟩ : ∃ e : Int, (b.natAbs : Int) = b * e := by
    rcases Int.natAbs_eq b with h | h
    · exact ⟨1, by omega⟩
    · exact ⟨-1, by omega⟩
  have hex : (G : Int) + -(X * a) = b * (s + q * a' * e) := by
    have h3 : (M : Int) * q * a = b * (q * a' * e) := by
      rw [ha]
      have : (M : Int) * q * ((G : Int) * a') = ((M : Int) * (G : Int)) * (q * a') := by grind
      rw [this, hMG, he]; grind
    have h4 : x * a = X * a + M * q * a := by rw [hq]; grind
    rw [Int.mul_add, ← h3, ← hs, h4]; grind
  have hYe : Y = s + q * a' * e := by rw [hY, hex, Int.mul_tdiv_cancel_left _ hb]
  have hsum : X * a + Y * b = (G : Int) := by rw [hYe]; have := hex; grind
  refine ⟨⟨by rw [hG], hsum, fun _ => hlo, fun _ => by rw [hG, hM]; exact hhi, fun h => absurd h hb, ?_⟩, ?_⟩
  · -- the second factor's size
    have h5 : Y * b = (G : Int) - X * a := by omega
    have h6 : Y.natAbs * b.natAbs ≤ G + X.natAbs * a.natAbs := by
      rw [← Int.natAbs_mul, h5]
      refine Nat.le_trans (Int.natAbs_sub_le _ _) ?_
      rw [Int.natAbs_mul, Int.natAbs_natCast]; exact Nat.le_refl _
    have h7 : X.natAbs ≤ b.natAbs := by
      have : X.natAbs < M := by omega
      have : M ≤ M * G := Nat.le_mul_of_pos_right _ hG0
      omega
    have hbp : 0 < b.natAbs := by omega
    rcases Nat.eq_zero_or_pos a.natAbs with ha0 | ha0
    · right
      have h9 : G ≤ b.natAbs := by rw [← h2]; exact Nat.le_mul_of_pos_left _ h1
      rw [ha0] at h6
      exact Nat.le_of_mul_le_mul_right (c := b.natAbs) (by omega) hbp
    · left
      have h9 : G ≤ a.natAbs := by rw [← hG]; exact Nat.le_of_dvd ha0 (Nat.gcd_dvd_left _ _)
      have h10 : X.natAbs + 1 ≤ M := by omega
      have h11 : (X.natAbs + 1) * a.natAbs ≤ M * a.natAbs := Nat.mul_le_mul_right _ h10
      have h12 : M * a.natAbs ≤ b.natAbs * a.natAbs := Nat.mul_le_mul_right _ (by rw [← h2]; exact Nat.le_mul_of_pos_right _ hG0)
      rw [Nat.add_mul, Nat.one_mul] at h11
      refine Nat.le_of_mul_le_mul_right (c := b.natAbs) ?_ hbp
      rw [Nat.mul_comm a.natAbs]; omega
  · have : X.natAbs < M := by omega
    have : M ≤ M * G := Nat.le_mul_of_pos_right _ hG0
    omega

end Go.Proofs.YtbjgpbdkofadiaaGreatDoor
