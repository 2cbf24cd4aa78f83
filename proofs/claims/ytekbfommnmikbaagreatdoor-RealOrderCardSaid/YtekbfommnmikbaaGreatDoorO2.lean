/- Texts of this claim, merged: Rnd, Amt, RealA, RealB, RealC, RealD, RealE. -/
import Derived.Test.YtekbfommnmikbaaGreatDoorO1
import Derived.Test.YtekbfommnmikbaaGreatDoorShelfB
import Derived.Laws.IdiomStrings
import Derived.Deep.Onto
import Derived.Deep.DrawnRows
import Derived.Recover
import Derived.Defers
/- Plain mathematics of rounding to 12 digits. No program in sight. -/
namespace Go.Proofs.YtekbfommnmikbaaGreatDoor
set_option linter.unusedVariables false
set_option linter.unusedSimpArgs false

/-- The number of some digits, the greatest one first. -/
def vd : List Int → Int
  | [] => 0
  | d :: l => d * 10 ^ l.length + vd l
theorem vd_nil : vd [] = 0 := rfl
theorem vd_cons (d : Int) (l : List Int) : vd (d :: l) = d * 10 ^ l.length + vd l := rfl
theorem vd_append : ∀ (l m : List Int), vd (l ++ m) = vd l * 10 ^ m.length + vd m
  | [], m => by simp [vd]
  | d :: l, m => by
    rw [List.cons_append, vd_cons, vd_cons, vd_append l m, List.length_append, Int.pow_add]
    grind
theorem vd_snoc (l : List Int) (d : Int) : vd (l ++ [d]) = 10 * vd l + d := by
  rw [vd_append]; simp [vd]; omega
theorem vd_zeros (k : Nat) : vd (List.replicate k 0) = 0 := by
  induction k with
  | zero => rfl
  | succ k ih => rw [List.replicate_succ, vd_cons, ih]; omega
theorem vd_nonneg {l : List Int} (h : InR 10 l) : 0 ≤ vd l := by
  induction l with
  | nil => exact Int.le_refl _
  | cons d l ih =>
    have h1 := (h d (List.mem_cons_self ..)).1
    have h2 := ih h.tail
    have h3 : (0 : Int) ≤ 10 ^ l.length := Int.le_of_lt (Int.pow_pos (by omega))
    have := Int.mul_nonneg h1 h3
    rw [vd_cons]; omega
theorem vd_lt {l : List Int} (h : InR 10 l) : vd l < 10 ^ l.length := by
  induction l with
  | nil => show (0 : Int) < 1; omega
  | cons d l ih =>
    have h1 := (h d (List.mem_cons_self ..)).2
    have h2 := ih h.tail
    rw [vd_cons, List.length_cons, Int.pow_succ]
    have h3 : (0 : Int) < 10 ^ l.length := Int.pow_pos (by omega)
    have h4 : d ≤ 9 := by have : d < 10 := h1; omega
    have := Int.mul_le_mul_of_nonneg_right h4 (Int.le_of_lt h3)
    omega
theorem vd_rev (l : List Int) : vd l.reverse = val 10 l := by
  induction l with
  | nil => rfl
  | cons d l ih => rw [List.reverse_cons, vd_snoc, ih, val_cons]; omega
theorem vd_dg (n : Nat) : vd (dg 10 n).reverse = (n : Int) := by rw [vd_rev, val_dg (by decide)]
theorem inR_reverse {l : List Int} (h : InR 10 l) : InR 10 l.reverse := fun x hx => h x (List.mem_reverse.1 hx)
theorem vd_nat {l : List Int} (h : InR 10 l) : ((vd l).toNat : Int) = vd l := Int.toNat_of_nonneg (vd_nonneg h)

/-- How many digits. -/
def nd (n : Nat) : Nat := (dg 10 n).length
theorem nd_zero : nd 0 = 0 := by unfold nd; rw [dg_zero]; rfl
theorem nd_le (n k : Nat) : nd n ≤ k ↔ n < 10 ^ k := dg_length_le (by decide) n k
theorem nd_gt (n k : Nat) : k < nd n ↔ 10 ^ k ≤ n := dg_length_lt (by decide) n k
theorem nd_eq {n k : Nat} (h1 : 10 ^ k ≤ n) (h2 : n < 10 ^ (k + 1)) : nd n = k + 1 := by
  have a := (nd_gt n k).2 h1
  have b := (nd_le n (k + 1)).2 h2
  omega
theorem nd_pos {n : Nat} (h : 0 < n) : 0 < nd n := (nd_gt n 0).2 (by rw [Nat.pow_zero]; exact h)
theorem nd_mono {m n : Nat} (h : m ≤ n) : nd m ≤ nd n := dg_length_mono (by decide) h
theorem lt_nd (n : Nat) : n < 10 ^ nd n := (nd_le n _).1 (Nat.le_refl _)
theorem nd_low {n : Nat} (h : 0 < n) : 10 ^ (nd n - 1) ≤ n := (nd_gt n _).1 (by have := nd_pos h; omega)
theorem nd_pow {n : Nat} (h : 0 < n) (k : Nat) : nd (n * 10 ^ k) = nd n + k := by
  have a := nd_pos h
  have b := nd_low h
  have c := lt_nd n
  obtain ⟨j, hj⟩ : ∃ j, nd n = j + 1 := ⟨nd n - 1, by omega⟩
  rw [hj] at b c ⊢
  rw [show j + 1 - 1 = j from rfl] at b
  rw [show j + 1 + k = (j + k) + 1 by omega]
  refine nd_eq ?_ ?_
  · rw [Nat.pow_add]; exact Nat.mul_le_mul_right _ b
  · rw [show j + k + 1 = (j + 1) + k by omega, Nat.pow_add]; exact Nat.mul_lt_mul_of_pos_right c (Nat.pow_pos (by decide))
theorem nd_vd {d : Int} {l : List Int} (h : InR 10 (d :: l)) (hd : d ≠ 0) : nd (vd (d :: l)).toNat = l.length + 1 := by
  have h1 := vd_nat h
  have h2 := vd_lt h
  have h0 := (h d (List.mem_cons_self ..)).1
  have h3 := vd_nonneg h.tail
  have hp : (0 : Int) < 10 ^ l.length := Int.pow_pos (by omega)
  have h4 := Int.mul_le_mul_of_nonneg_right (show (1 : Int) ≤ d by omega) (Int.le_of_lt hp)
  refine nd_eq ?_ ?_
  · have : ((10 ^ l.length : Nat) : Int) ≤ ((vd (d :: l)).toNat : Int) := by rw [h1, vd_cons, Int.natCast_pow]; simp only [Int.cast_ofNat_Int]; omega
    exact_mod_cast this
  · have : ((vd (d :: l)).toNat : Int) < ((10 ^ (l.length + 1) : Nat) : Int) := by rw [h1, Int.natCast_pow]; exact h2
    exact_mod_cast this

/-- 1 if what stands behind a point is more than a half, or a half behind an odd number. -/
def halfUp (r k q : Nat) : Nat := if 10 ^ k < 2 * r ∨ (2 * r = 10 ^ k ∧ q % 2 = 1) then 1 else 0
/-- n / 10^k, rounded. -/
def rdiv (n k : Nat) : Nat := n / 10 ^ k + halfUp (n % 10 ^ k) k (n / 10 ^ k)
/-- The 12 digits. -/
def man12 (n : Nat) : Nat := if nd n < 12 then n * 10 ^ (12 - nd n) else rdiv n (nd n - 12)
/-- A Man and an exponent, after the carry; none if too large. -/
def fit (m : Nat) (x : Int) : Option (Nat × Int) := if m = 1000000000000 then (if 88 < x + 1 then none else some (100000000000, x + 1)) else if 88 < x then none else some (m, x)
/-- The rounded value of n times 10^e. -/
def rnd (n : Nat) (e : Int) : Option (Nat × Int) :=
  if n = 0 ∨ (nd n : Int) + e < -100 then some (0, 0)
  else if (nd n : Int) + e = -100 then (if 10 ^ nd n < 2 * n then some (100000000000, -111) else some (0, 0))
  else fit (man12 n) ((nd n : Int) - 12 + e)

theorem half_mul (r k q j : Nat) : halfUp (r * 10 ^ j) (k + j) q = halfUp r k q := by
  unfold halfUp
  have hp : 0 < 10 ^ j := Nat.pow_pos (by decide)
  have e1 : (10 ^ (k + j) < 2 * (r * 10 ^ j)) ↔ 10 ^ k < 2 * r := by
    rw [Nat.pow_add, ← Nat.mul_assoc]; exact Nat.mul_lt_mul_right hp
  have e2 : (2 * (r * 10 ^ j) = 10 ^ (k + j)) ↔ 2 * r = 10 ^ k := by
    rw [Nat.pow_add, ← Nat.mul_assoc]; exact ⟨fun h => Nat.eq_of_mul_eq_mul_right hp h, fun h => by rw [h]⟩
  simp only [e1, e2]
theorem rdiv_mul (n k j : Nat) : rdiv (n * 10 ^ j) (k + j) = rdiv n k := by
  unfold rdiv
  have hp : 0 < 10 ^ j := Nat.pow_pos (by decide)
  have e1 : n * 10 ^ j / 10 ^ (k + j) = n / 10 ^ k := by rw [Nat.pow_add]; exact Nat.mul_div_mul_right _ _ hp
  have e2 : n * 10 ^ j % 10 ^ (k + j) = n % 10 ^ k * 10 ^ j := by rw [Nat.pow_add]; exact Nat.mul_mod_mul_right _ _ _
  rw [e1, e2, half_mul]
theorem rdiv_zero (n : Nat) : rdiv n 0 = n := by unfold rdiv halfUp; simp [Nat.mod_one]
theorem man12_mul {n : Nat} (h : 0 < n) (j : Nat) : man12 (n * 10 ^ j) = man12 n := by
  unfold man12
  rw [nd_pow h]
  by_cases h1 : nd n + j < 12
  · rw [if_pos h1, if_pos (by omega), Nat.mul_assoc, ← Nat.pow_add]; congr 2; omega
  · rw [if_neg h1]
    by_cases h2 : nd n < 12
    · rw [if_pos h2]
      have e : n * 10 ^ j = n * 10 ^ (12 - nd n) * 10 ^ (nd n + j - 12) := by rw [Nat.mul_assoc, ← Nat.pow_add]; congr 2; omega
      have e2 := rdiv_mul (n * 10 ^ (12 - nd n)) 0 (nd n + j - 12)
      rw [Nat.zero_add] at e2
      rw [e, e2, rdiv_zero]
    · rw [if_neg h2, show nd n + j - 12 = (nd n - 12) + j by omega, rdiv_mul]
/-- Zeros at the end change nothing. -/
theorem rnd_mul (n j : Nat) (e : Int) : rnd (n * 10 ^ j) (e - j) = rnd n e := by
  by_cases h0 : n = 0
  · subst h0; simp [rnd]
  have h : 0 < n := by omega
  have hp : 0 < 10 ^ j := Nat.pow_pos (by decide)
  have hm : 0 < n * 10 ^ j := Nat.mul_pos h hp
  unfold rnd
  rw [nd_pow h, man12_mul h]
  have e1 : ((nd n + j : Nat) : Int) + (e - j) = (nd n : Int) + e := by omega
  have e2 : ((nd n + j : Nat) : Int) - 12 + (e - j) = (nd n : Int) - 12 + e := by omega
  have e3 : (10 ^ (nd n + j) < 2 * (n * 10 ^ j)) ↔ 10 ^ nd n < 2 * n := by
    rw [Nat.pow_add, ← Nat.mul_assoc]; exact Nat.mul_lt_mul_right hp
  have e4 : (n * 10 ^ j = 0) ↔ n = 0 := by omega
  simp only [e1, e2, e3, e4]

/-- What near makes of the digits behind a point. -/
def nearV (l : List Int) (q : Nat) : Nat := halfUp (vd l).toNat l.length q
theorem near_nil (q : Nat) : nearV [] q = 0 := by unfold nearV halfUp; simp [vd]
theorem near_less {d : Int} {l : List Int} (h : InR 10 (d :: l)) (hd : d < 5) (q : Nat) : nearV (d :: l) q = 0 := by
  unfold nearV halfUp
  have h1 := vd_nat h
  have h2 := vd_lt h.tail
  have hp : (0 : Int) < 10 ^ l.length := Int.pow_pos (by omega)
  have h4 := Int.mul_le_mul_of_nonneg_right (show d ≤ 4 by omega) (Int.le_of_lt hp)
  have h5 : 2 * ((vd (d :: l)).toNat : Int) < ((10 ^ (l.length + 1) : Nat) : Int) := by rw [h1, vd_cons, Int.natCast_pow, Int.pow_succ]; simp only [Int.cast_ofNat_Int]; omega
  have h6 : 2 * (vd (d :: l)).toNat < 10 ^ (l.length + 1) := by exact_mod_cast h5
  rw [List.length_cons]
  rw [if_neg (by omega)]
theorem near_more {d : Int} {l : List Int} (h : InR 10 (d :: l)) (hd : 5 < d ∨ (5 ≤ d ∧ 0 < vd l)) (q : Nat) : nearV (d :: l) q = 1 := by
  unfold nearV halfUp
  have h1 := vd_nat h
  have h2 := vd_nonneg h.tail
  have hp : (0 : Int) < 10 ^ l.length := Int.pow_pos (by omega)
  have h5 : ((10 ^ (l.length + 1) : Nat) : Int) < 2 * ((vd (d :: l)).toNat : Int) := by
    rw [h1, vd_cons, Int.natCast_pow, Int.pow_succ]; simp only [Int.cast_ofNat_Int]
    rcases hd with hd | ⟨hd, hv⟩
    · have h4 := Int.mul_le_mul_of_nonneg_right (show (6 : Int) ≤ d by omega) (Int.le_of_lt hp); omega
    · have h4 := Int.mul_le_mul_of_nonneg_right hd (Int.le_of_lt hp); omega
  have h6 : 10 ^ (l.length + 1) < 2 * (vd (d :: l)).toNat := by exact_mod_cast h5
  rw [List.length_cons, if_pos (.inl h6)]
theorem near_half {l : List Int} (hv : vd l = 0) (q : Nat) : nearV (5 :: l) q = if q % 2 = 1 then 1 else 0 := by
  unfold nearV halfUp
  have h5 : 2 * vd (5 :: l) = 10 ^ (l.length + 1) := by rw [vd_cons, hv, Int.pow_succ]; omega
  have hp : (0 : Int) < 10 ^ (l.length + 1) := Int.pow_pos (by omega)
  have h6 : 2 * ((vd (5 :: l)).toNat : Int) = ((10 ^ (l.length + 1) : Nat) : Int) := by rw [Int.toNat_of_nonneg (by omega), Int.natCast_pow]; exact h5
  have h7 : 2 * (vd (5 :: l)).toNat = 10 ^ (l.length + 1) := by exact_mod_cast h6
  rw [List.length_cons, h7]
  simp
theorem vd_some {l : List Int} (h : InR 10 l) : 0 < vd l ↔ ∃ x ∈ l, 0 < x := by
  induction l with
  | nil => simp [vd]
  | cons d l ih =>
    have hp : (0 : Int) < 10 ^ l.length := Int.pow_pos (by omega)
    have h0 := (h d (List.mem_cons_self ..)).1
    have h2 := vd_nonneg h.tail
    have h3 := Int.mul_nonneg h0 (Int.le_of_lt hp)
    rw [vd_cons]
    constructor
    · intro hv
      by_cases hd : 0 < d
      · exact ⟨d, List.mem_cons_self .., hd⟩
      · obtain rfl : d = 0 := by omega
        obtain ⟨x, hx, hx0⟩ := (ih h.tail).1 (by omega)
        exact ⟨x, List.mem_cons_of_mem _ hx, hx0⟩
    · rintro ⟨x, hx, hx0⟩
      rcases List.mem_cons.1 hx with rfl | hx
      · have := Int.mul_pos hx0 hp; omega
      · have := (ih h.tail).2 ⟨x, hx, hx0⟩; omega

/-- The digits cut behind the twelfth. -/
theorem rdiv_cut {l : List Int} (h : InR 10 l) (j : Nat) (hj : j ≤ l.length) :
    (vd (l.take j)).toNat + nearV (l.drop j) (vd (l.take j)).toNat = rdiv (vd l).toNat (l.length - j) := by
  have ht := vd_nat (h.take j)
  have hd := vd_nat (h.drop j)
  have hl := vd_nat h
  have hlt := vd_lt (h.drop j)
  have e : vd l = vd (l.take j) * 10 ^ (l.drop j).length + vd (l.drop j) := by
    have := vd_append (l.take j) (l.drop j)
    rw [List.take_append_drop] at this
    exact this
  obtain ⟨T, hT⟩ : ∃ T, (vd (l.take j)).toNat = T := ⟨_, rfl⟩
  obtain ⟨D, hD⟩ : ∃ D, (vd (l.drop j)).toNat = D := ⟨_, rfl⟩
  obtain ⟨N, hN⟩ : ∃ N, (vd l).toNat = N := ⟨_, rfl⟩
  rw [hT] at ht; rw [hD] at hd; rw [hN] at hl
  rw [← ht, ← hd, ← hl] at e
  rw [← hd] at hlt
  have hk : (l.drop j).length = l.length - j := by simp
  rw [hk] at e hlt
  have e' : N = T * 10 ^ (l.length - j) + D := by exact_mod_cast e
  have hlt' : D < 10 ^ (l.length - j) := by exact_mod_cast hlt
  unfold nearV rdiv
  rw [hT, hN, hD, hk]
  have hp : 0 < 10 ^ (l.length - j) := Nat.pow_pos (by decide)
  have q1 : N / 10 ^ (l.length - j) = T := by rw [e', Nat.mul_comm, Nat.mul_add_div hp, Nat.div_eq_of_lt hlt']; rfl
  have q2 : N % 10 ^ (l.length - j) = D := by rw [e', Nat.mul_comm, Nat.mul_add_mod, Nat.mod_eq_of_lt hlt']
  rw [q1, q2]

/-- Without the zeros ahead. -/
def strip : List Int → List Int
  | [] => []
  | d :: l => if d = 0 then strip l else d :: l
theorem strip_vd (l : List Int) : vd (strip l) = vd l := by
  induction l with
  | nil => rfl
  | cons d l ih =>
    unfold strip
    split
    · rename_i h; rw [ih, vd_cons, h]; omega
    · rfl
theorem strip_nil {l : List Int} (h : InR 10 l) : strip l = [] ↔ vd l = 0 := by
  induction l with
  | nil => simp [strip, vd]
  | cons d l ih =>
    unfold strip
    split
    · rename_i h0; rw [ih h.tail, vd_cons, h0]; omega
    · rename_i h0
      have h1 := (h d (List.mem_cons_self ..)).1
      have h2 := vd_nonneg h.tail
      have hp : (0 : Int) < 10 ^ l.length := Int.pow_pos (by omega)
      have h3 := Int.mul_pos (show 0 < d by omega) hp
      rw [vd_cons]
      constructor
      · intro e; cases e
      · intro e; omega
/-- The 12 digits and what near adds. -/
theorem man12_of {d : Int} {l p : List Int} (h : InR 10 (d :: l)) (hd : d ≠ 0) (hp : p = (d :: l) ++ List.replicate (12 - (l.length + 1)) 0) :
    InR 10 p ∧ 12 ≤ p.length ∧ (vd (p.take 12)).toNat + nearV (p.drop 12) (vd (p.take 12)).toNat = man12 (vd (d :: l)).toNat := by
  have hn := nd_vd h hd
  have hi : InR 10 p := by rw [hp]; exact h.append (InR.replicate (by decide) _)
  have hl : p.length = l.length + 1 + (12 - (l.length + 1)) := by rw [hp, List.length_append, List.length_replicate, List.length_cons]
  refine ⟨hi, by omega, ?_⟩
  have hv : (vd p).toNat = (vd (d :: l)).toNat * 10 ^ (12 - (l.length + 1)) := by
    have h1 := vd_nat hi
    have h2 := vd_nat h
    have e : vd p = vd (d :: l) * 10 ^ (12 - (l.length + 1)) := by rw [hp, vd_append, vd_zeros, List.length_replicate]; omega
    rw [← h1, ← h2] at e
    exact_mod_cast e
  rw [rdiv_cut hi 12 (by omega), hv, hl]
  unfold man12
  rw [hn]
  by_cases hc : l.length + 1 < 12
  · rw [if_pos hc, show l.length + 1 + (12 - (l.length + 1)) - 12 = 0 by omega, rdiv_zero]
  · rw [if_neg hc, show 12 - (l.length + 1) = 0 by omega, Nat.pow_zero, Nat.mul_one]

theorem half_le (r k q : Nat) : halfUp r k q ≤ 1 := by unfold halfUp; split <;> omega
theorem man12_rng {n : Nat} (h : 0 < n) : 100000000000 ≤ man12 n ∧ man12 n ≤ 1000000000000 := by
  have a := nd_low h
  have b := lt_nd n
  have hp := nd_pos h
  unfold man12
  split
  · rename_i hc
    obtain ⟨j, hj⟩ : ∃ j, nd n = j + 1 := ⟨nd n - 1, by omega⟩
    rw [hj] at a b hc ⊢
    have e1 : 10 ^ j * 10 ^ (12 - (j + 1)) = 100000000000 := by rw [← Nat.pow_add, show j + (12 - (j + 1)) = 11 by omega]
    have e2 : 10 ^ (j + 1) * 10 ^ (12 - (j + 1)) = 1000000000000 := by rw [← Nat.pow_add, show j + 1 + (12 - (j + 1)) = 12 by omega]
    have h1 := Nat.mul_le_mul_right (10 ^ (12 - (j + 1))) a
    have h2 := Nat.mul_le_mul_right (10 ^ (12 - (j + 1))) (Nat.le_of_lt b)
    rw [show j + 1 - 1 = j from rfl, e1] at h1
    rw [e2] at h2
    exact ⟨h1, h2⟩
  · rename_i hc
    obtain ⟨j, hj⟩ : ∃ j, nd n = j + 12 := ⟨nd n - 12, by omega⟩
    rw [hj] at a b ⊢
    rw [show j + 12 - 12 = j by omega]
    unfold rdiv
    have hh := half_le (n % 10 ^ j) j (n / 10 ^ j)
    have hq1 : 100000000000 ≤ n / 10 ^ j := by
      rw [Nat.le_div_iff_mul_le (Nat.pow_pos (by decide))]
      rw [show j + 12 - 1 = 11 + j by omega, Nat.pow_add] at a
      exact a
    have hq2 : n / 10 ^ j < 1000000000000 := by
      rw [Nat.div_lt_iff_lt_mul (Nat.pow_pos (by decide))]
      rw [show j + 12 = 12 + j by omega, Nat.pow_add] at b
      exact b
    omega
/-- A real's parts: 0, or 12 digits and an exponent that is not too great. -/
def RV (m : Nat) (x : Int) : Prop := (m = 0 ∧ x = 0) ∨ (100000000000 ≤ m ∧ m < 1000000000000 ∧ -111 ≤ x ∧ x ≤ 88)
theorem rnd_valid {n : Nat} {e : Int} {m : Nat} {x : Int} (h : rnd n e = some (m, x)) : RV m x := by
  unfold rnd at h
  split at h
  · cases h; exact .inl ⟨rfl, rfl⟩
  · rename_i h1
    split at h
    · split at h
      · cases h; exact .inr ⟨by omega, by omega, by omega, by omega⟩
      · cases h; exact .inl ⟨rfl, rfl⟩
    · rename_i h2
      have := man12_rng (n := n) (by omega)
      unfold fit at h
      split at h
      · split at h
        · cases h
        · cases h; exact .inr ⟨by omega, by omega, by omega, by omega⟩
      · split at h
        · cases h
        · cases h; exact .inr ⟨by omega, by omega, by omega, by omega⟩
theorem rnd_zero (e : Int) : rnd 0 e = some (0, 0) := by unfold rnd; rw [if_pos (.inl rfl)]
theorem nd_man {m : Nat} (h1 : 100000000000 ≤ m) (h2 : m < 1000000000000) : nd m = 12 := nd_eq (k := 11) h1 h2
/-- 12 digits are rounded already. -/
theorem rnd_man {m : Nat} (h1 : 100000000000 ≤ m) (h2 : m < 1000000000000) (e : Int) :
    rnd m e = if e < -112 then some (0, 0) else if e = -112 then (if 500000000000 < m then some (100000000000, -111) else some (0, 0)) else if 88 < e then none else some (m, e) := by
  have hn := nd_man h1 h2
  have hm : man12 m = m := by unfold man12; rw [hn, if_neg (by omega), rdiv_zero]
  unfold rnd fit
  rw [hn, hm]
  by_cases c1 : e < -112
  · rw [if_pos (by omega), if_pos c1]
  · rw [if_neg (by omega), if_neg c1]
    by_cases c2 : e = -112
    · rw [if_pos (by omega), if_pos c2]
      by_cases c3 : 500000000000 < m
      · rw [if_pos c3, if_pos (by show 1000000000000 < _; omega)]
      · rw [if_neg c3, if_neg (by show ¬ 1000000000000 < _; omega)]
    · rw [if_neg (by omega), if_neg c2, if_neg (by omega), show ((12 : Nat) : Int) - 12 + e = e by omega]
theorem rnd_self {m : Nat} {x : Int} (h : RV m x) : rnd m x = some (m, x) := by
  rcases h with ⟨rfl, rfl⟩ | ⟨h1, h2, h3, h4⟩
  · exact rnd_zero _
  · rw [rnd_man h1 h2, if_neg (by omega), if_neg (by omega), if_neg (by omega)]

end Go.Proofs.YtekbfommnmikbaaGreatDoor
/- Plain mathematics of exact results: columns, quotients, roots. No program in sight. -/
namespace Go.Proofs.YtekbfommnmikbaaGreatDoor
set_option linter.unusedVariables false
set_option linter.unusedSimpArgs false

/-- All columns are small. -/
def TB (B : Int) (t : List Int) : Prop := ∀ x ∈ t, -B ≤ x ∧ x ≤ B
theorem TB.at_ {B : Int} {t : List Int} (h : TB B t) (hB : 0 ≤ B) (j : Nat) : -B ≤ t[j]?.getD 0 ∧ t[j]?.getD 0 ≤ B := by
  rcases Nat.lt_or_ge j t.length with hj | hj
  · rw [List.getElem?_eq_getElem hj]; exact h _ (List.getElem_mem hj)
  · rw [List.getElem?_eq_none hj]; exact ⟨by simp; omega, hB⟩
theorem TB.set {B C : Int} {t : List Int} (h : TB B t) (hBC : B ≤ C) (j : Nat) {x : Int} (h1 : -C ≤ x) (h2 : x ≤ C) : TB C (t.set j x) := fun y hy => by
  rcases List.mem_or_eq_of_mem_set hy with h3 | rfl
  · have := h y h3; exact ⟨by omega, by omega⟩
  · exact ⟨h1, h2⟩
theorem TB.mono {B C : Int} {t : List Int} (h : TB B t) (hBC : B ≤ C) : TB C t := fun y hy => by have := h y hy; exact ⟨by omega, by omega⟩
theorem TB.zeros (n : Nat) : TB 0 (List.replicate n 0) := fun x hx => by rw [(List.mem_replicate.1 hx).2]; exact ⟨by omega, by omega⟩
/-- One digit is entered. -/
theorem enter_val {t : List Int} {i : Nat} (hi : i < t.length) (y : Int) : val 10 (t.set i (t[i]?.getD 0 + y)) = val 10 t + 10 ^ i * y := by
  rw [val_set 10 t i _ hi, List.getD_eq_getElem?_getD]
  congr 2
  omega
theorem enter_step {t : List Int} {ds : List Int} {i k L : Nat} {V0 f d : Int} (hL : ds.length = L) (hi : i < L) (hd : ds[i]?.getD 0 = d) (hk : k + (L - 1 - i) < t.length)
    (hv : val 10 t = V0 + f * vd (ds.take i) * 10 ^ (k + (L - i))) :
    val 10 (t.set (k + (L - 1 - i)) (t[k + (L - 1 - i)]?.getD 0 + f * d)) = V0 + f * vd (ds.take (i + 1)) * 10 ^ (k + (L - (i + 1))) := by
  rw [enter_val hk, hv]
  have e : ds.take (i + 1) = ds.take i ++ [d] := by
    rw [List.take_add_one, ← hd, List.getElem?_eq_getElem (by omega)]; rfl
  rw [e, vd_snoc, show k + (L - i) = (k + (L - 1 - i)) + 1 by omega, show k + (L - (i + 1)) = k + (L - 1 - i) by omega, Int.pow_succ]
  grind

/-- The columns are brought to digits. -/
theorem carry_step {t u : List Int} {i : Nat} {V o n : Int} (hi : i < t.length) (hl : u.length = i) (hu : InR 10 u) (hv : val 10 u + 10 ^ i * (o + val 10 (t.drop i)) = V) (hn : n = t[i]?.getD 0 + o) :
    InR 10 (u ++ [n - 10 * (n.fdiv 10)]) ∧ val 10 (u ++ [n - 10 * (n.fdiv 10)]) + 10 ^ (i + 1) * (n.fdiv 10 + val 10 (t.drop (i + 1))) = V := by
  have h1 : n - 10 * (n.fdiv 10) = n.fmod 10 := by have := Int.mul_fdiv_add_fmod n 10; omega
  have h2 : 0 ≤ n.fmod 10 := Int.fmod_nonneg_of_pos _ (by decide)
  have h3 : n.fmod 10 < 10 := Int.fmod_lt_of_pos _ (by decide)
  refine ⟨hu.snoc (by omega) (by show n - 10 * n.fdiv 10 < 10; omega), ?_⟩
  rw [val_snoc, hl, ← hv, val_drop 10 t i hi, List.getD_eq_getElem?_getD, Int.pow_succ]
  have e : t[i]?.getD 0 = n - o := by omega
  rw [e]
  show _ = _
  have : ((10 : Nat) : Int) = 10 := rfl
  rw [this]
  grind
theorem carry_end {t u : List Int} {L : Nat} {V o : Int} (hl : u.length = L) (ht : t.length = L) (hu : InR 10 u) (hv : val 10 u + 10 ^ L * (o + val 10 (t.drop L)) = V) : val 10 u + 10 ^ L * o = V := by
  rw [List.drop_eq_nil_of_le (by omega), val_nil] at hv
  rw [← hv]; simp
theorem carry_over {u : List Int} {L : Nat} {V o : Int} (hl : u.length = L) (hu : InR 10 u) (hv : val 10 u + 10 ^ L * o = V) : (0 ≤ V → V < 10 ^ L → o = 0 ∧ val 10 u = V) ∧ (V < 0 → -(10 ^ L) ≤ V → o = -1 ∧ val 10 u = V + 10 ^ L) := by
  have h1 := val_nonneg hu
  have h2 : val 10 u < 10 ^ L := by have := val_lt hu; rw [hl] at this; exact this
  have hp : (0 : Int) < 10 ^ L := Int.pow_pos (by omega)
  generalize (10 : Int) ^ L = P at *
  constructor
  · intro a b
    have c1 : ¬ 1 ≤ o := fun c => by have := Int.mul_le_mul_of_nonneg_left c (Int.le_of_lt hp); omega
    have c2 : ¬ o ≤ -1 := fun c => by have := Int.mul_le_mul_of_nonneg_left c (Int.le_of_lt hp); omega
    obtain rfl : o = 0 := by omega
    exact ⟨rfl, by omega⟩
  · intro a b
    have c1 : ¬ 0 ≤ o := fun c => by have := Int.mul_le_mul_of_nonneg_left c (Int.le_of_lt hp); omega
    have c2 : ¬ o ≤ -2 := fun c => by have := Int.mul_le_mul_of_nonneg_left c (Int.le_of_lt hp); omega
    obtain rfl : o = -1 := by omega
    exact ⟨rfl, by omega⟩
theorem val_neg (b : Nat) (l : List Int) : val b (l.map fun x => -x) = -val b l := by
  induction l with
  | nil => rfl
  | cons d l ih => rw [List.map_cons, val_cons, val_cons, ih]; grind
/-- The digits of the magnitude, in L columns. -/
theorem total_pos {u : List Int} {L : Nat} {V : Int} (hu : InR 10 u) (hv : val 10 u = V) : InR 10 u.reverse ∧ vd u.reverse = V := ⟨inR_reverse hu, by rw [vd_rev, hv]⟩

/-- A root's digits: R is the root of P, S what is left. -/
def RootAt (P R S : Nat) : Prop := R * R + S = P ∧ S ≤ 2 * R
theorem rootAt_zero : RootAt 0 0 0 := ⟨rfl, Nat.le_refl _⟩
theorem rootAt_step {P R S p d : Nat} (h : RootAt P R S) (hp : p < 100) (hd : d ≤ 9) (h1 : (20 * R + d) * d ≤ S * 100 + p) (h2 : d = 9 ∨ S * 100 + p < (20 * R + (d + 1)) * (d + 1)) :
    RootAt (P * 100 + p) (10 * R + d) (S * 100 + p - (20 * R + d) * d) := by
  obtain ⟨e, hs⟩ := h
  have e1 : (10 * R + d) * (10 * R + d) = 100 * (R * R) + (20 * R + d) * d := by grind
  refine ⟨by rw [e1]; omega, ?_⟩
  rcases h2 with rfl | h2
  · have : (20 * R + 9) * 9 = 180 * R + 81 := by omega
    omega
  · have : (20 * R + (d + 1)) * (d + 1) = (20 * R + d) * d + (20 * R + d) + (d + 1) := by grind
    omega
theorem rootAt_le {P R S : Nat} (h : RootAt P R S) : R * R ≤ P ∧ P < (R + 1) * (R + 1) := by
  obtain ⟨e, hs⟩ := h
  have : (R + 1) * (R + 1) = R * R + 2 * R + 1 := by grind
  omega
end Go.Proofs.YtekbfommnmikbaaGreatDoor
/- Package real: the digits of an int; near. -/
namespace Go.Proofs.YtekbfommnmikbaaGreatDoor
set_option linter.unusedVariables false
set_option linter.unusedSimpArgs false
open Go.RowKit Go.Shelf Go.Proofs Go.Sort

theorem ret_i {k : IntKind} {a b : Int} (h : a = b) : Ending.returned (.int k a) = .returned (.int k b) := by rw [h]
theorem size_c (n : Int) (w : World) (h0 : -9223372036854775807 ≤ n) (h1 : n ≤ 9223372036854775807) :
    Calls Tryz.prog 100 #[.int .i64 n] w fun e w' => e = .returned (.int .i64 (n.natAbs : Int)) ∧ w = w' := by
  by_cases h : n < 0
  · go_enter Tryz.func100, Tryz.ntmps100
    go_wp2
    go_ret
    exact ⟨ret_i (by omega), rfl⟩
  · go_enter Tryz.func100, Tryz.ntmps100
    go_wp2
    go_ret
    exact ⟨ret_i (by omega), rfl⟩

/-- Bytes (as numbers) turned around. -/
theorem revb_c (g cap : Nat) (l : List Int) (w : World) (hc : ∀ j, j < l.length → w.cell? ⟨g, j, none⟩ = some (.int .u8 (l[j]?.getD 0))) (hf : ∀ j, w.frozen? ⟨g, j, none⟩ = false) (hl : l.length ≤ 9223372036854775807) :
    Calls Tryz.prog 156 #[.slice (some ⟨g, 0, none⟩) l.length cap] w fun e w' => e = .returned (.tuple #[]) ∧ (∀ j, j < l.length → w'.cell? ⟨g, j, none⟩ = some (.int .u8 (l.reverse[j]?.getD 0))) ∧ (∀ k w0, k ≤ g → Below k w0 w → Below k w0 w') := by
  have h0 : Holds (Value.int .u8) w g 0 l.toArray := fun j hj => by
    have hj' : j < l.length := by simpa using hj
    rw [Nat.zero_add]
    refine ⟨?_, hf j⟩
    rw [hc j hj', getElem!_pos _ j hj, List.getElem?_eq_getElem hj']
    simp
  have h := AnyE.slices_Reverse Tryz.laysRev (Value.int .u8) (fun _ => rfl) g 0 cap l w h0 hl
  refine (show Calls Tryz.prog 156 #[.slice (some ⟨g, 0, none⟩) l.length cap] w _ from h).mono ?_
  rintro e w' ⟨rfl, n, rfl⟩
  refine ⟨rfl, fun j hj => ?_, fun k w0 hk hb => ⟨hb.os, hb.tape, hb.output, by simpa [Sort.ahead] using hb.size, fun i hi => ?_⟩⟩
  · have hj' : j < l.reverse.toArray.size := by simpa using hj
    have h1 := cell?_putRow (Value.int .u8) (Sort.ahead w n) g 0 l.toArray l.reverse.toArray h0 (by simp) j hj'
    rw [Nat.zero_add] at h1
    rw [h1, getElem!_pos _ j hj', List.getElem?_eq_getElem (by simpa using hj)]
    simp
  · rw [← hb.block i hi]
    simp only [putRow, mapBlock, Sort.ahead, Array.getElem?_modify]
    rw [if_neg (by omega)]
theorem revn_c (a : Option Addr) (cap : Nat) (w : World) : Calls Tryz.prog 156 #[.slice a 0 cap] w fun e w' => e = .returned (.tuple #[]) ∧ w' = w :=
  AnyE.slices_Reverse_empty Tryz.laysRev a cap w

theorem own_some' {w : World} {B : Nat} {t : TypeId} {v : Value} {n : Nat} {xs : List Value} (h : w.ownsRow B t 1 v n xs) (hn : 0 < n) : ∃ g cap, v = .slice (some ⟨g, 0, none⟩) n cap := by
  rcases h.2 with ⟨_, h0⟩ | ⟨g, cap, cur, rfl, _⟩
  · omega
  · exact ⟨g, cap, rfl⟩

/-- A call returns new digits ds. -/
def DsP (ds : List Int) (w : World) (e : Ending) (w' : World) : Prop := ∃ v, e = .returned v ∧ Sl .u8 w' v ds ∧ FromB w.heap.size v ∧ Below w.heap.size w w'

set_option maxRecDepth 100000 in
set_option maxHeartbeats 2000000 in
theorem digitsOf_c (n : Nat) (w : World) (hn : n < 10 ^ 18) : Calls Tryz.prog 89 #[.int .i64 (n : Int)] w (DsP (dg 10 n).reverse w) := by
  have HLEN : Hid ((dg 10 n).length ≤ 18) := (dg_length_le (by decide) n 18).2 hn
  obtain ⟨i0, hi, hz0, hz1, hz2⟩ := info_parts info_byte
  have HI := Lib.hid (And.intro hi (And.intro hz0 (And.intro hz1 hz2)))
  clear hi hz0 hz1 hz2
  have hn2 : n ≤ 9223372036854775807 := by omega
  clear hn
  go_enter Tryz.func89, Tryz.ntmps89
  go_wp2_with fail
  go_loopg [0, 3] n (fun g nv lv wr => ∃ (l : List Int), nv = .int .i64 (g : Int) ∧ g ≤ n ∧ Hid (wr.ownsRow w.heap.size 5 1 lv l.length (l.map (Value.int .u8))) ∧ Hid (l ++ dg 10 g = dg 10 n) ∧ Hid (Below w.heap.size w wr))
  case atStart => exact ⟨[], rfl, Nat.le_refl _, World.ownsRow_nil _ _ _ _, rfl, Below.refl _ _⟩
  case round =>
    obtain ⟨l, rfl, hgn, HOW, HL, HB⟩ := hrel
    have hll : l.length ≤ 18 := by have h1 := congrArg List.length HL.out; rw [List.length_append] at h1; have := HLEN.out; omega
    have hsz := HB.out.size
    by_cases hg0 : gk = 0
    · subst hg0
      have hl := HL.out
      rw [dg_zero, List.append_nil] at hl
      subst hl
      have HFR := Lib.hid (own_from HOW.out)
      by_cases hp : (dg 10 n).length = 0
      · obtain ⟨A, c, rfl⟩ : ∃ A c, u3 = .slice A 0 c := by
          rcases HOW.out.2 with ⟨h, _⟩ | ⟨g, cap, cur, h, _⟩
          · exact ⟨none, 0, h⟩
          · exact ⟨_, cap, by rw [h, hp]⟩
        have hcap : c ≤ 9223372036854775807 := by
          obtain ⟨A', c', e, h1, h2, -, -⟩ := own_row HOW.out
          have e2 := (Value.slice.inj e).2.2
          unfold maxLen at h2; omega
        have HNIL : Hid (dg 10 n = []) := List.eq_nil_of_length_eq_zero hp
        clear hp HL HLEN HOW
        go_wp2_with (go_at_call 156; refine (revn_c _ _ _).mono ?_; rintro e w' ⟨rfl, rfl⟩)
        go_ret
        rw [HNIL.out]
        exact ⟨_, rfl, ⟨A, c, rfl, Nat.zero_le _, hcap, Row.nil⟩, HFR.out, HB.out⟩
      · obtain ⟨g, cap, rfl⟩ := own_some' HOW.out (by omega)
        have hcs : Hid (∀ j, j < (dg 10 n).length → wr.cell? ⟨g, j, none⟩ = some (.int .u8 ((dg 10 n)[j]?.getD 0))) := fun j hj => by
          obtain ⟨A', c', e, -, -, hr, -⟩ := own_row HOW.out
          cases e
          obtain ⟨a, e, hc⟩ := hr j hj
          cases e
          rw [add_lit, Nat.zero_add] at hc
          exact hc
        have hcap : (dg 10 n).length ≤ cap ∧ cap ≤ 9223372036854775807 := by
          obtain ⟨A', c', e, h1, h2, -, -⟩ := own_row HOW.out
          cases e; unfold maxLen at h2; exact ⟨h1, by omega⟩
        have hgb := (HOW.out.lt g rfl).1
        have hfz := Lib.hid (fun j => HOW.out.frozenAt j)
        have hcap1 := hcap.1; have hcap2 := hcap.2
        clear hp HL hcap
        go_wp2_with (go_at_call 156; refine (revb_c g cap (dg 10 n) _ hcs.out hfz.out (by omega)).mono ?_; rintro e w2 ⟨rfl, hc2, hb2⟩; have HC2 := Lib.hid hc2; have HB2 := Lib.hid (hb2 _ _ hgb HB.out); clear hc2 hb2)
        go_ret
        refine ⟨_, rfl, ⟨some ⟨g, 0, none⟩, cap, by rw [List.length_reverse]; rfl, by rw [List.length_reverse]; exact hcap1, hcap2, fun j hj => ⟨_, rfl, ?_⟩⟩, HFR.out, HB2.out⟩
        rw [add_lit, Nat.zero_add]
        exact HC2.out j (by simpa using hj)
    · obtain ⟨d, hd⟩ : ∃ d, gk % 10 = d := ⟨_, rfl⟩
      have hd9 : d < 10 := by omega
      have HDG : Hid (dg 10 gk = (d : Int) :: dg 10 (gk / 10)) := by show _ = _; rw [dg_pos (by decide) (by omega), ← hd]
      have T : (gk : Int) % 10 = (d : Int) := by omega
      have hwr : IntKind.u8.wrap (d : Int) = (d : Int) := by rw [show IntKind.u8.wrap (d : Int) = (d : Int) % 256 from rfl]; omega
      have hgp : (0 : Int) < (gk : Int) := by omega
      have hgm : (gk : Int) ≤ 9223372036854775807 := by omega
      clear hd
      go_wp2_with (at_builtin; refine wpList_append_own _ rfl _ _ 93 rfl w.heap.size 5 i0 (.int .u8 0) 1 1 Tryz.underlying93 HI.out.1 HI.out.2.1 HI.out.2.2.1 HI.out.2.2.2 rfl (by decide) _ _ _ rfl (HOW.out.alloc _) ⟨wr.heap.size, 0, none⟩ 1 1 [.int .u8 (d : Int)] rfl rfl (cell_one_new _ _ _) (by simp [Value.oneCell']) (by unfold maxLen; omega) (by omega) (by simp; omega) ?_; intro v' w1 hown1 hgrow1 _; have HO1 := Lib.hid hown1; have HG1 := Lib.hid hgrow1; clear hown1 hgrow1)
      go_roundg (gk / 10)
      case measure => omega
      case rel =>
        refine ⟨l ++ [(d : Int)], by go_num, by omega, ?_, ?_, ?_⟩
        · have h1 := HO1.out
          rw [List.map_append, List.length_append]; exact h1
        · show _ = _
          rw [List.append_assoc, List.singleton_append, ← HL.out, HDG.out]
        · exact (HB.out.alloc hsz _).grown HG1.out (by simp; omega) ((own_from HOW.out).mono (by omega))

/-- What the callers of near give: whether some digit is not 0. -/
theorem nearf_c (x : Int) (w : World) : Calls Tryz.prog 158 #[.int .u8 x] w fun e w' => e = .returned (.bool (decide (0 < x))) ∧ w = w' := by
  go_enter Tryz.func158, Tryz.ntmps158
  go_wp2
  go_ret
  exact ⟨rfl, rfl⟩
theorem drop_take {l : List Int} {k : Nat} (h : k < l.length) : l.take (k + 1) = l.take k ++ [l[k]?.getD 0] := by
  rw [List.take_add_one, List.getElem?_eq_getElem h]; rfl

set_option maxRecDepth 100000 in
set_option maxHeartbeats 1000000 in
theorem indexf_c (A : Option Addr) (c : Nat) (l : List Int) (w : World) (hr : Row .u8 w A l) (hl : l.length ≤ 9223372036854775807) :
    Calls Tryz.prog 203 #[.slice A l.length c, .func (.func 158) #[] #[]] w fun e w' => (∃ i : Int, e = .returned (.int .i64 i) ∧ (0 ≤ i ↔ ∃ x ∈ l, 0 < x)) ∧ w = w' := by
  have HR := Lib.hid hr
  clear hr
  go_enter Tryz.func203, Tryz.ntmps203
  go_wp2_with fail
  go_loopg [8] l.length (fun g iv wr => ∃ k : Nat, iv = .int .i64 (k : Int) ∧ k + g = l.length ∧ Hid (∀ x ∈ l.take k, ¬ 0 < x) ∧ wr = w)
  case atStart => exact ⟨0, rfl, by omega, fun x hx => by simp at hx, rfl⟩
  case round =>
    obtain ⟨k, rfl, hk, HZ, rfl⟩ := hrel
    by_cases hlt : k < l.length
    · obtain ⟨a, rfl, hcell⟩ := HR.out k hlt
      have HT := Lib.hid (drop_take hlt)
      have HM : Hid (l[k]?.getD 0 ∈ l) := by show _ ∈ _; rw [List.getElem?_eq_getElem hlt]; exact List.getElem_mem hlt
      obtain ⟨x, hx⟩ : ∃ x, l[k]?.getD 0 = x := ⟨_, rfl⟩
      rw [hx] at hcell HT HM
      have HK := Lib.hid hk
      clear hx hk
      by_cases hx0 : 0 < x
      · have hb : decide (0 < x) = true := decide_eq_true hx0
        go_wp2_with (go_at_call 158; refine (nearf_c x _).mono ?_; rintro e w' ⟨he, rfl⟩; rw [hb] at he; subst he)
        go_ret
        exact ⟨⟨_, rfl, fun _ => ⟨x, HM.out, hx0⟩, fun _ => by omega⟩, rfl⟩
      · have hb : decide (0 < x) = false := decide_eq_false hx0
        go_wp2_with (go_at_call 158; refine (nearf_c x _).mono ?_; rintro e w' ⟨he, rfl⟩; rw [hb] at he; subst he)
        go_roundg (gk - 1)
        case measure => have := HK.out; omega
        case rel =>
          refine ⟨k + 1, by go_num, by have := HK.out; omega, fun y hy => ?_, rfl⟩
          rw [HT.out] at hy
          rcases List.mem_append.1 hy with hy | hy
          · exact HZ.out y hy
          · rw [List.mem_singleton.1 hy]; exact hx0
    · have HN : Hid (¬ ∃ x ∈ l, 0 < x) := by
        rintro ⟨x, hx, h0⟩
        exact HZ.out x (by rw [List.take_of_length_le (by omega)]; exact hx) h0
      go_wp2_with fail
      go_ret
      exact ⟨⟨_, rfl, fun h => by omega, fun h => absurd h HN.out⟩, rfl⟩

theorem containsf_c (A : Option Addr) (c : Nat) (l : List Int) (b : Bool) (w : World) (hr : Row .u8 w A l) (hl : l.length ≤ 9223372036854775807) (hb : b = true ↔ ∃ x ∈ l, 0 < x) :
    Calls Tryz.prog 157 #[.slice A l.length c, .func (.func 158) #[] #[]] w fun e w' => e = .returned (.bool b) ∧ w = w' := by
  have HR := Lib.hid hr; have HL := Lib.hid hl; have HBB := Lib.hid hb
  clear hr hl hb
  go_enter Tryz.func157, Tryz.ntmps157
  go_wp2_with (go_at_call 203; refine (indexf_c A c l _ HR.out HL.out).mono ?_; rintro e w' ⟨⟨i, rfl, hi⟩, rfl⟩; have HI := Lib.hid hi; clear hi)
  go_ret
  refine ⟨?_, rfl⟩
  rw [show b = decide (0 ≤ i) from by rw [Bool.eq_iff_iff, HBB.out, decide_eq_true_iff]; exact HI.out.symm]
  rfl

end Go.Proofs.YtekbfommnmikbaaGreatDoor
/- Package real: near, put, copies of digits. -/
namespace Go.Proofs.YtekbfommnmikbaaGreatDoor
set_option linter.unusedVariables false
set_option linter.unusedSimpArgs false
open Go.RowKit Go.Shelf Go.Proofs Go.Sort

theorem add_zero (a : Addr) : a.add 0 = a := rfl
theorem add_one (a : Addr) (j : Nat) : (⟨a.block, a.off + 1, none⟩ : Addr).add j = a.add (j + 1) := by
  unfold Addr.add
  rw [if_neg (show ¬ j + 1 = 0 by omega)]
  split
  · rename_i h; subst h; rfl
  · simp; omega
theorem row_tail {k : IntKind} {w : World} {a : Addr} {d : Int} {t : List Int} (h : Row k w (some a) (d :: t)) : Row k w (some ⟨a.block, a.off + 1, none⟩) t := fun j hj => by
  obtain ⟨a', e, hc⟩ := h (j + 1) (by simpa using hj)
  cases e
  exact ⟨_, rfl, by rw [add_one]; simpa using hc⟩

set_option maxRecDepth 100000 in
set_option maxHeartbeats 1000000 in
theorem near_c (A : Option Addr) (c : Nat) (l : List Int) (q : Nat) (w : World) (hr : Row .u8 w A l) (hc : l.length ≤ c) (hm : c ≤ 9223372036854775807) (hi : InR 10 l) (hq : q < 10 ^ 13) :
    Calls Tryz.prog 90 #[.slice A l.length c, .int .i64 (q : Int)] w fun e w' => e = .returned (.int .i64 (nearV l q : Int)) ∧ w = w' := by
  cases l with
  | nil =>
    rw [near_nil]
    clear hr hi
    go_enter Tryz.func90, Tryz.ntmps90
    go_wp2_with fail
    go_ret
    exact ⟨rfl, rfl⟩
  | cons d t =>
    obtain ⟨a, rfl, hcell⟩ := hr 0 (by simp)
    have hcell : w.cell? a = some (.int .u8 d) := by have h0 : w.cell? (a.add 0) = some (.int .u8 d) := hcell; rwa [add_zero] at h0
    have hne : ((t.length : Int) + 1 == 0) = false := by rw [beq_eq_false_iff_ne]; omega
    rw [List.length_cons] at *
    by_cases hd : d < 5
    · rw [near_less hi hd]
      clear hr hi
      go_enter Tryz.func90, Tryz.ntmps90
      go_wp2_with fail
      go_ret
      exact ⟨rfl, rfl⟩
    · have HDV := Lib.hid (near_more hi)
      have HHF := Lib.hid (fun hv : vd t = 0 => near_half hv q)
      obtain ⟨b, hb⟩ : ∃ b, decide (0 < vd t) = b := ⟨_, rfl⟩
      have HCB : Hid (b = true ↔ ∃ x ∈ t, 0 < x) := by show _ ↔ _; rw [← hb, decide_eq_true_iff]; exact vd_some hi.tail
      have HVN := Lib.hid (vd_nonneg hi.tail)
      have HB := Lib.hid hb
      have HD := Lib.hid hd
      have hd5 : ¬ (d < 5) := hd
      have HRT := Lib.hid (row_tail hr)
      have hm0 : (0 : Int) ≤ (q : Int) := by omega
      have hm1 : (q : Int) ≤ 9223372036854775807 := by omega
      have hq2 := Nat.mod_two_eq_zero_or_one q
      obtain ⟨r, hr2⟩ : ∃ r, q % 2 = r := ⟨_, rfl⟩
      rw [hr2] at hq2
      have T : (q : Int) % 2 = (r : Int) := by omega
      have HR2 := Lib.hid hr2
      obtain ⟨L, hL⟩ : ∃ L, t.length = L := ⟨_, rfl⟩
      rw [hL] at hc hne ⊢
      have HL := Lib.hid hL
      have HC2 : Hid (∀ c', Calls Tryz.prog 157 #[.slice (some ⟨a.block, a.off + 1, none⟩) L c', .func (.func 158) #[] #[]] w fun e w' => e = .returned (.bool b) ∧ w = w') := fun c' => by
        rw [← HL.out]; exact containsf_c _ c' t b w HRT.out (by rw [HL.out]; omega) HCB.out
      have HC3 : Hid (c = 1 → Calls Tryz.prog 157 #[.slice (some a) L 0, .func (.func 158) #[] #[]] w fun e w' => e = .returned (.bool b) ∧ w = w') := fun h1 => by
        obtain rfl : t = [] := List.eq_nil_of_length_eq_zero (by rw [HL.out]; omega)
        rw [← HL.out]
        exact containsf_c _ 0 [] b w Row.nil (by simp) HCB.out
      have HEND : Hid (nearV (d :: t) q = if d = 5 ∧ b = false then (if r = 1 then 1 else 0) else 1) := by
        show _ = _
        by_cases h5 : d = 5 ∧ b = false
        · rw [if_pos h5]
          have hv : vd t = 0 := by have := h5.2; rw [← hb, decide_eq_false_iff_not] at this; have := HVN.out; omega
          rw [h5.1, near_half hv, hr2]
        · rw [if_neg h5]
          refine near_more hi ?_ q
          cases b with
          | false => exact .inl (by have h6 : ¬ d = 5 := fun e => h5 ⟨e, rfl⟩; omega)
          | true => exact .inr ⟨by omega, by simpa using hb⟩
      rw [HEND.out]
      clear hr hi hb hr2 hL hd HEND
      by_cases h5 : d = 5
      · subst h5
        have h56 : decide ((5 : Int) < 5) = false := by decide
        cases b
        · rcases hq2 with rfl | rfl
          · go_enter Tryz.func90, Tryz.ntmps90
            go_wp2_with (first
              | (go_at_call 157; (with_reducible refine (HC2.out _).mono ?_); rintro e w' ⟨rfl, rfl⟩)
              | (go_at_call 157; (with_reducible refine (HC3.out ?_).mono ?_); assumption; rintro e w' ⟨rfl, rfl⟩))
            all_goals
              go_ret
              exact ⟨rfl, rfl⟩
          · go_enter Tryz.func90, Tryz.ntmps90
            go_wp2_with (first
              | (go_at_call 157; (with_reducible refine (HC2.out _).mono ?_); rintro e w' ⟨rfl, rfl⟩)
              | (go_at_call 157; (with_reducible refine (HC3.out ?_).mono ?_); assumption; rintro e w' ⟨rfl, rfl⟩))
            all_goals
              go_ret
              exact ⟨rfl, rfl⟩
        · go_enter Tryz.func90, Tryz.ntmps90
          go_wp2_with (first
            | (go_at_call 157; (with_reducible refine (HC2.out _).mono ?_); rintro e w' ⟨rfl, rfl⟩)
            | (go_at_call 157; (with_reducible refine (HC3.out ?_).mono ?_); assumption; rintro e w' ⟨rfl, rfl⟩))
          all_goals
            go_ret
            exact ⟨rfl, rfl⟩
      · have h6 : 5 < d := by have := HD.out; omega
        rw [if_neg (fun h => h5 h.1)]
        go_enter Tryz.func90, Tryz.ntmps90
        go_wp2_with (first
          | (go_at_call 157; (with_reducible refine (HC2.out _).mono ?_); rintro e w' ⟨rfl, rfl⟩)
          | (go_at_call 157; (with_reducible refine (HC3.out ?_).mono ?_); assumption; rintro e w' ⟨rfl, rfl⟩))
        all_goals
          go_ret
          exact ⟨rfl, rfl⟩

/-- A Man with its sign. -/
def sgm (s : Bool) (m : Int) : Int := if s then -m else m

set_option maxRecDepth 100000 in
set_option maxHeartbeats 1000000 in
theorem put_c (s : Bool) (m x : Int) (w : World) (h0 : 0 ≤ m) (h1 : m ≤ 9223372036854775807) :
    Calls Tryz.prog 202 #[.agg #[.bool s], .int .i64 m, .int .i64 x] w fun e w' => e = .returned (.agg #[.int .i64 (sgm s m), .int .i64 x]) ∧ Below w.heap.size w w' := by
  cases s
  · go_enter Tryz.func202, Tryz.ntmps202
    go_wp2_with fail
    refine bodyPost_ret (v := .agg #[.int .i64 m, .int .i64 x]) (by simp [results, Tryz.results202, go_sem]) rfl ?_
    exact ⟨rfl, (by repeat (first | exact Below.refl _ _ | exact HB.out | (refine Below.alloc ?_ (by first | (simp; done) | (simp; omega)) _) | (refine Below.setCell ?_ (by first | (simp; done) | (simp; omega)) _) | refine Below.drew ?_ | refine below_drewN ?_ _))⟩
  · go_enter Tryz.func202, Tryz.ntmps202
    go_wp2_with fail
    refine bodyPost_ret (v := .agg #[.int .i64 (-m), .int .i64 x]) (by simp [results, Tryz.results202, go_sem]) rfl ?_
    exact ⟨rfl, (by repeat (first | exact Below.refl _ _ | exact HB.out | (refine Below.alloc ?_ (by first | (simp; done) | (simp; omega)) _) | (refine Below.setCell ?_ (by first | (simp; done) | (simp; omega)) _) | refine Below.drew ?_ | refine below_drewN ?_ _))⟩

/-- Digits copied. -/
theorem bclone_c (A : Option Addr) (c : Nat) (xs : List Int) (w : World) (hr : Row .u8 w A xs) (hb : xs.length ≤ 1000000000) :
    Calls Tryz.prog 201 #[.slice A xs.length c] w fun e w' => ∃ v, e = .returned v ∧ w'.ownsRow w.heap.size 5 1 v xs.length (xs.map (Value.int .u8)) ∧ Below w.heap.size w w' := by
  obtain ⟨i0, hi, hz0, hz1, hz2⟩ := info_parts info_byte
  have q22 : ∀ (w : World) (a : Option Addr) (n c n' c' : Nat), (binOp .eql 93 (.slice a n c) (.slice none n' c')).run Tryz.prog w = .ok (.bool a.isNone) w := fun w a n c n' c' => Lib.run_eql_slice_nil w _ _ a n c n' c' Tryz.underlying93
  have HR := Lib.hid hr
  clear hr
  have HI := Lib.hid (And.intro hi (And.intro hz0 (And.intro hz1 hz2)))
  clear hi hz0 hz1 hz2
  cases A with
  | none =>
    have hx : xs = [] := by
      cases xs with
      | nil => rfl
      | cons x xs => obtain ⟨a, e, _⟩ := HR.out 0 (by simp); cases e
    subst hx
    go_enter Tryz.func201, Tryz.ntmps201
    go_wp2
    go_ret
    exact ⟨_, rfl, World.ownsRow_nil _ _ _ _, Below.refl _ _⟩
  | some a =>
    go_enter Tryz.func201, Tryz.ntmps201
    go_wp2_with (at_builtin; refine wpList_append_own _ rfl _ _ 93 rfl w.heap.size 5 i0 (.int .u8 0) 1 1 Tryz.underlying93 HI.out.1 HI.out.2.1 HI.out.2.2.1 HI.out.2.2.2 rfl (by decide) _ _ _ rfl (World.ownsRow_made w #[] 0 (Nat.le_refl _) (Nat.zero_le _) rfl) a xs.length c (xs.map (Value.int .u8)) rfl (by simp) ?qc2 ?qc3 ?qc4 ?qc5 ?qc6 ?_)
    case qc2 =>
      intro j u hj
      have hjn : j < xs.length := by
        have := (List.getElem?_eq_some_iff.1 hj).1
        simpa using this
      obtain ⟨a', e, hc⟩ := (HR.out.alloc (.cells #[] 5)) j hjn
      cases e
      rw [hc]
      rw [List.getElem?_map, List.getElem?_eq_getElem hjn] at hj
      rw [List.getElem?_eq_getElem hjn]
      exact hj
    case qc3 => intro u hu; obtain ⟨x, _, rfl⟩ := List.mem_map.1 hu; rfl
    case qc4 => unfold maxLen; omega
    case qc5 => omega
    case qc6 => simp
    intro v' w1 hown hgrow hnil
    go_wp2
    go_ret
    refine ⟨v', rfl, by simpa using hown, ?_⟩
    exact ((Below.refl _ _).alloc (Nat.le_refl _) _).grown hgrow (by simp) (fun k hk => by cases hk; exact Nat.le_refl _)
end Go.Proofs.YtekbfommnmikbaaGreatDoor
/- Package real: round. -/
namespace Go.Proofs.YtekbfommnmikbaaGreatDoor
set_option linter.unusedVariables false
set_option linter.unusedSimpArgs false
open Go.RowKit Go.Shelf Go.Proofs Go.Sort
attribute [local go_sem ↓] Go.wp_at_zero Go.wp_at_succ

/-- What round panics with. -/
def bigChain : List PanicEntry := [{ v := .iface 146 (.agg #[]), recovered := false }]
/-- How round ends. -/
def roundE (s : Bool) : Option (Nat × Int) → Ending
  | some (m, x) => .returned (.agg #[.int .i64 (sgm s m), .int .i64 x])
  | none => .panicked bigChain
def withMore (ds : List Int) (more : Bool) : List Int := if more then ds ++ [1] else ds
def expMore (e : Int) (more : Bool) : Int := if more then e - 1 else e

theorem bx2h (w : World) (a0 a1 : Array Value) (t0 t1 : TypeId) : ∃ W, (w.alloc (.cells a0 t0)).alloc (.cells a1 t1) = W ∧ W.heap[w.heap.size]? = some (.cells a0 t0 (0, 0)) ∧ W.heap[w.heap.size + 1]? = some (.cells a1 t1 (0, 0)) ∧ Below w.heap.size w W ∧ W.heap.size = w.heap.size + 2 :=
  ⟨_, rfl, heap_old _ (heap_alloc_new _ _), heap_new' _ _ _ (by simp), ((Below.refl _ _).alloc (Nat.le_refl _) _).alloc (by simp) _, by simp⟩
theorem grownB {w w1 : World} {v : Value} {B : Nat} {o : Obj} (hg : w.grownBy w1 v.ownBlock) (hb : w.heap[B]? = some o) (hv : v.ownBlock ≠ some B) : w1.heap[B]? = some o := by
  rw [hg.block B (Array.getElem?_eq_some_iff.1 hb).1 (Ne.symm hv)]; exact hb
theorem own_neB {w : World} {base : Nat} {e : TypeId} {size : Nat} {v : Value} {n : Nat} {xs : List Value} (h : w.ownsRow base e size v n xs) {B : Nat} (hB : B < base) : v.ownBlock ≠ some B := fun e => by
  have := (h.lt _ e).1
  omega
theorem heapB {w w1 : World} {B : Nat} {o : Obj} (hb : Below w.heap.size w w1) (h : w.heap[B]? = some o) : w1.heap[B]? = some o := (hb.block B (Array.getElem?_eq_some_iff.1 h).1).trans h

theorem putB {w : World} {g : Nat} {cs : Array Value} {t : TypeId} {fz : Nat × Nat} (h : w.heap[g]? = some (.cells cs t fz)) (i : Nat) (v : Value) :
    (w.setCell ⟨g, i, none⟩ v).heap[g]? = some (.cells (cs.setIfInBounds i v) t fz) := by
  obtain ⟨hlt, h'⟩ := Array.getElem?_eq_some_iff.1 h
  show (w.heap.modify g _)[g]? = _
  rw [Array.getElem?_eq_getElem (by simpa using hlt), Array.getElem_modify_self, h']
  rfl

/-- A slice of digits in an array of the call's own (from block B on), from wherever on, its spare cells known. -/
def Bs (B : Nat) (w : World) (v : Value) (xs : List Int) : Prop :=
  ∃ g off c cur, v = .slice (some ⟨g, off, none⟩) xs.length c ∧ B ≤ g ∧ w.heap[g]? = some (.cells cur 5 (0, 0)) ∧ xs.length ≤ c ∧ c ≤ maxLen ∧ off + c ≤ cur.size ∧ ∀ j, j < xs.length → cur[off + j]? = some (.int .u8 (xs[j]?.getD 0))
theorem Bs.row {B : Nat} {w : World} {v : Value} {xs : List Int} (h : Bs B w v xs) : ∃ A c, v = .slice A xs.length c ∧ xs.length ≤ c ∧ c ≤ 9223372036854775807 ∧ Row .u8 w A xs := by
  obtain ⟨g, off, c, cur, rfl, h1, h2, h3, h4, h5, h6⟩ := h
  refine ⟨_, c, rfl, h3, by unfold maxLen at h4; omega, fun j hj => ⟨_, rfl, ?_⟩⟩
  rw [add_lit, cell_of_heap h2]
  exact h6 j hj
theorem Bs.lt {B : Nat} {w : World} {v : Value} {xs : List Int} (h : Bs B w v xs) : B < w.heap.size := by
  obtain ⟨g, off, c, cur, rfl, h1, h2, -⟩ := h
  have := (Array.getElem?_eq_some_iff.1 h2).1
  omega
theorem own_bs {B : Nat} {w : World} {v : Value} {xs : List Int} {n : Nat} (h : w.ownsRow B 5 1 v n (xs.map (Value.int .u8))) (hn : 0 < n) : Bs B w v xs := by
  have hl : xs.length = n := by have := h.1; simpa using this
  rcases h.2 with ⟨_, h0⟩ | ⟨g, cap, cur, rfl, hb, hh, h1, hm, hs, ht⟩
  · omega
  · refine ⟨g, 0, cap, cur, by rw [hl], hb, hh, by omega, hm, by omega, fun j hj => ?_⟩
    have h2 : (cur.toList.take (n * 1))[j]? = (xs.map (Value.int .u8))[j]? := by rw [ht]
    rw [List.getElem?_take_of_lt (by omega), Array.getElem?_toList, List.getElem?_map, List.getElem?_eq_getElem hj] at h2
    rw [Nat.zero_add, h2, List.getElem?_eq_getElem hj]; rfl
theorem Bs.tail {B : Nat} {w : World} {a : Addr} {d : Int} {t : List Int} {c : Nat} (h : Bs B w (.slice (some a) (t.length + 1) c) (d :: t)) (hc : c ≠ 1) : Bs B w (.slice (some ⟨a.block, a.off + 1, none⟩) t.length (c - 1)) t := by
  obtain ⟨g, off, c', cur, e, h1, h2, h3, h4, h5, h6⟩ := h
  have e1 := (Value.slice.inj e).1
  have e3 := (Value.slice.inj e).2.2
  cases e1; subst e3
  rw [List.length_cons] at h3
  refine ⟨g, off + 1, c - 1, cur, rfl, h1, h2, by omega, by omega, by omega, fun j hj => ?_⟩
  have := h6 (j + 1) (by rw [List.length_cons]; omega)
  rw [show off + 1 + j = off + (j + 1) by omega, this]
  simp

theorem setCells_one (w : World) (b o : Nat) (v : Value) : w.setCells b o [v] = w.setCell ⟨b, o, none⟩ v := rfl

/-- One digit more. -/
theorem wp_bpush {ops : Array Oper} {rest : List Oper} {op : Oper} {a : Act} {Q : Exit → Act → World → Prop} (hgd : op.guard = none) (s x : Operand)
    (ho : op.op = .call { callee := .builtin .append, args := #[s, x], argTypes := #[93, 93] })
    {B : Nat} {W : World} {v : Value} {xs : List Int} (hs : a.eval s = v) (h : Bs B W v xs) (d : Int) (hx : a.eval x = .slice (some ⟨W.heap.size, 0, none⟩) 1 1) (hl : xs.length ≤ 100000000)
    (hK : ∀ v' w', Bs B w' v' (xs ++ [d]) → Below B W w' → wpList Tryz.prog ops Q rest (a.put op.dst v') w') :
    wpList Tryz.prog ops Q (op :: rest) a (W.alloc (.cells #[.int .u8 d] 5)) := by
  obtain ⟨i0, hi, hz0, hz1, hz2⟩ := info_parts info_byte
  have hB := h.lt
  obtain ⟨g, off, c, cur, rfl, h1, h2, h3, h4, h5, h6⟩ := h
  have hgl : g < W.heap.size := (Array.getElem?_eq_some_iff.1 h2).1
  have h2' : (W.alloc (.cells #[.int .u8 d] 5)).heap[g]? = some (.cells cur 5 (0, 0)) := heap_old _ h2
  have hb0 : Below B W (W.alloc (.cells #[.int .u8 d] 5)) := (Below.refl _ _).alloc (by omega) _
  refine wpList_append_arg _ hgd s x 93 ho 5 i0 (.int .u8 0) 1 1 Tryz.underlying93 hi hz0 hz1 hz2 rfl (by decide) g off xs.length c (xs.map (Value.int .u8)) hs (by simp) ?_ ⟨W.heap.size, 0, none⟩ 1 1 [.int .u8 d] hx rfl (World.news_of_block (heap_alloc_new _ _)) (by simp [Value.oneCell']) ?_ (by unfold maxLen; omega) (by omega) ?_ ?_
  · intro j u hj
    have hjn : j < xs.length := by
      have := (List.getElem?_eq_some_iff.1 hj).1
      simpa using this
    rw [cell_of_heap h2', h6 j hjn]
    rw [List.getElem?_map, List.getElem?_eq_getElem hjn] at hj
    rw [List.getElem?_eq_getElem hjn]
    exact hj
  · intro hroom j hj
    have hj0 : j = 0 := by simpa using hj
    subst hj0
    refine ⟨?_, free_of_heap h2' _⟩
    rw [cell_of_heap h2', Array.getElem?_eq_getElem (by omega)]; rfl
  · intro hroom
    rw [setCells_one]
    refine hK _ _ ⟨g, off, c, cur.setIfInBounds (off + xs.length * 1) (.int .u8 d), by rw [List.length_append]; rfl, h1, putB h2' _ _, by rw [List.length_append]; simpa using hroom, h4, by simpa using h5, fun j hj => ?_⟩ (hb0.setCell (p := ⟨g, off + xs.length * 1, none⟩) h1 _)
    rw [List.length_append, List.length_singleton] at hj
    rw [Array.getElem?_setIfInBounds]
    by_cases e : j < xs.length
    · rw [if_neg (by omega), h6 j e, List.getElem?_append_left e]
    · obtain rfl : j = xs.length := by omega
      rw [if_pos (by omega), if_pos (by omega)]; simp
  · intro hgr v' w' hown hg
    have hown' : w'.ownsRow (W.heap.size + 1) 5 1 v' (xs.length + 1) ((xs ++ [d]).map (Value.int .u8)) := by rw [List.map_append]; simpa using hown
    refine hK _ _ ?_ (hb0.grown hg (by simp; omega) (fun k e => by cases e))
    obtain ⟨g', o', c', cur', k1, k2, k3⟩ := own_bs hown' (by omega)
    exact ⟨g', o', c', cur', k1, by omega, k3⟩

theorem near_zero {l : List Int} : nearV l 0 = if 10 ^ l.length < 2 * (vd l).toNat then 1 else 0 := by
  unfold nearV halfUp
  by_cases h : 10 ^ l.length < 2 * (vd l).toNat
  · rw [if_pos h, if_pos (.inl h)]
  · rw [if_neg h, if_neg (by omega)]
theorem near_le (l : List Int) (q : Nat) : nearV l q ≤ 1 := half_le _ _ _
theorem strip_self {d : Int} {t : List Int} (h : d ≠ 0) : strip (d :: t) = d :: t := by unfold strip; rw [if_neg h]
theorem vd_pos {d : Int} {t : List Int} (h : InR 10 (d :: t)) (hd : d ≠ 0) : 0 < (vd (d :: t)).toNat := by
  rcases Nat.eq_zero_or_pos (vd (d :: t)).toNat with e | e
  · have := nd_vd h hd
    rw [e, nd_zero] at this; omega
  · exact e
theorem add_k (a : Addr) (k j : Nat) (hk : 0 < k) : (⟨a.block, a.off + k, none⟩ : Addr).add j = a.add (k + j) := by
  unfold Addr.add
  rw [if_neg (show ¬ k + j = 0 by omega)]
  split
  · rename_i h; subst h; rfl
  · simp; omega
theorem row_drop {kd : IntKind} {w : World} {a : Addr} {l : List Int} {k : Nat} (hk : 0 < k) (h : Row kd w (some a) l) : Row kd w (some ⟨a.block, a.off + k, none⟩) (l.drop k) := fun j hj => by
  obtain ⟨a', e, hc⟩ := h (k + j) (by simp at hj; omega)
  cases e
  exact ⟨_, rfl, by rw [add_k _ _ _ hk]; simpa using hc⟩
set_option maxRecDepth 100000 in
set_option maxHeartbeats 4000000 in
theorem round_c (s : Bool) (A : Option Addr) (c : Nat) (ds : List Int) (e : Int) (more : Bool) (w : World) (hr : Row .u8 w A ds) (hc : ds.length ≤ c) (hm : c ≤ 9223372036854775807) (hi : InR 10 ds) (hl : ds.length ≤ 1000000) (he : -1000000000 ≤ e) (he2 : e ≤ 1000000000) :
    Calls Tryz.prog 155 #[.agg #[.bool s, .slice A ds.length c, .int .i64 e, .bool more]] w fun en w' => en = roundE s (rnd (vd (withMore ds more)).toNat (expMore e more)) ∧ Below w.heap.size w w' := by
  obtain ⟨W, hW, k0, k1, hbel, hsz⟩ := bx2h w #[.bool s, .slice A ds.length c, .int .i64 e, .bool more] #[.int .i64 0, .int .i64 0] 95 23
  have c00 := cell_of_heap k0 0; have c01 := cell_of_heap k0 1; have c02 := cell_of_heap k0 2; have c03 := cell_of_heap k0 3
  simp at c00 c01 c02 c03
  have HR := Lib.hid (hr.below hbel)
  have HK0 := Lib.hid k0; have HK1 := Lib.hid k1; have HBEL := Lib.hid hbel; have HSZ := Lib.hid hsz
  have HI := Lib.hid hi
  obtain ⟨ds1, hds1⟩ : ∃ ds1, withMore ds more = ds1 := ⟨_, rfl⟩
  obtain ⟨e1, he1⟩ : ∃ e1, expMore e more = e1 := ⟨_, rfl⟩
  rw [hds1, he1]
  have HDS := Lib.hid hds1; have HE1 := Lib.hid he1
  have HI1 : Hid (InR 10 ds1) := by
    show InR 10 ds1
    rw [← hds1]; unfold withMore
    split
    · exact hi.snoc (by decide) (by decide)
    · exact hi
  have hl1 : ds1.length ≤ 1000001 := by
    rw [← hds1]; unfold withMore
    split
    · rw [List.length_append, List.length_singleton]; omega
    · omega
  have hb1 : -1000000001 ≤ e1 := by rw [← he1]; unfold expMore; split <;> omega
  have hb2 : e1 ≤ 1000000000 := by rw [← he1]; unfold expMore; split <;> omega
  clear hr k0 k1 hbel hsz hi hds1 he1
  go_enter Tryz.func155, Tryz.ntmps155
  go_upto_if 13 with (go_at_call 201; (with_reducible refine (bclone_c A c ds _ HR.out (by omega)).mono ?_); rintro en w1 ⟨v1, rfl, hown, hbz⟩; have HOW := Lib.hid hown; have HBZ := Lib.hid hbz; have c00 := keep_cell hbz c00; have c02 := keep_cell hbz c02; have c03 := keep_cell hbz c03; clear hown hbz)
  have HKA := Lib.hid (heapB (o := .cells #[.bool s, .slice A ds.length c, .int .i64 e, .bool more] 95 (0, 0)) HBZ.out HK0.out)
  have HKB := Lib.hid (heapB (o := .cells #[.int .i64 0, .int .i64 0] 23 (0, 0)) HBZ.out HK1.out)
  have HB1 := Lib.hid (below_then' HBEL.out HBZ.out)
  have hsw : W.heap.size ≤ w1.heap.size := HBZ.out.size
  have hsz : W.heap.size = w.heap.size + 2 := HSZ.out
  have HS2 := Lib.hid hsz
  clear c01 hsz
  go_cut [3] from 12 to 20 (fun v wx => Hid (wx.ownsRow W.heap.size 5 1 v ds1.length (ds1.map (Value.int .u8))) ∧ Hid (wx.heap[w.heap.size]? = some (.cells #[.bool s, .slice A ds.length c, .int .i64 e1, .bool more] 95 (0, 0))) ∧ Hid (wx.heap[w.heap.size + 1]? = some (.cells #[.int .i64 0, .int .i64 0] 23 (0, 0))) ∧ Hid (Below w.heap.size w wx))
  case first =>
    cases more
    · go_wp2_with fail
      go_meet
      obtain rfl : ds = ds1 := HDS.out
      obtain rfl : e = e1 := HE1.out
      exact ⟨HOW.out, HKA.out, HKB.out, HB1.out⟩
    · have f02 := free_of_heap HKA.out 2
      obtain ⟨i0, hi, hz0, hz1, hz2⟩ := info_parts info_byte
      have HI2 := Lib.hid (And.intro hi (And.intro hz0 (And.intro hz1 hz2)))
      clear hi hz0 hz1 hz2
      have HNA := Lib.hid (own_neB HOW.out (B := w.heap.size) (by have := HS2.out; omega))
      have HNB := Lib.hid (own_neB HOW.out (B := w.heap.size + 1) (by have := HS2.out; omega))
      have a02 := fun o => keep_cell ((Below.refl w1.heap.size w1).alloc (Nat.le_refl _) o) c02
      have hwe : IntKind.i64.wrap (e - 1) = e - 1 := IntWalk.i64_in _ (by omega)
      go_wp2_with fail
      go_region_law ((refine step_append_lies _ (by rfl) _ _ _ (by rfl) W.heap.size 5 i0 (.int .u8 0) 1 1 Tryz.underlying93 HI2.out.1 HI2.out.2.1 HI2.out.2.2.1 HI2.out.2.2.2 rfl (by decide) v1 _ _ (by rfl) ((HOW.out.alloc _).drew) ⟨w1.heap.size, 0, none⟩ 1 1 [.int .u8 1] (by rfl) (by rfl) (World.news_of_block (heap_alloc_new w1 _)) (by simp [Value.oneCell']) (by omega) (by unfold maxLen; omega) (by omega) (by simp; omega) (w1.heap.size + 1) (by simp) ?_; intro gg cap w2 hown2 hgrow hat hlt1; have HO2 := Lib.hid hown2; have HG2 := Lib.hid hgrow; have hxa := grownB hgrow (show ((w1.alloc (.cells #[.int .u8 1] 5)).drew).heap[w.heap.size]? = some _ from heap_old _ HKA.out) HNA.out; have hxb := grownB hgrow (show ((w1.alloc (.cells #[.int .u8 1] 5)).drew).heap[w.heap.size + 1]? = some _ from heap_old _ HKB.out) HNB.out; have y2 := cell_of_heap hxa 2; have z2 := free_of_heap hxa 2; have HXA := Lib.hid hxa; have HXB := Lib.hid hxb; simp at y2; clear hown2 hgrow hxa hxb))
      all_goals
        go_wp2_with fail
        go_meet
        obtain rfl : ds ++ [1] = ds1 := HDS.out
        obtain rfl : e - 1 = e1 := HE1.out
        have h1 := own_setCell_other HO2.out ⟨w.heap.size, 2, none⟩ (.int .i64 (e - 1)) (own_neB HO2.out (B := w.heap.size) (by have := HS2.out; omega))
        refine ⟨?_, putB HXA.out 2 _, ?_, ?_⟩
        · rw [List.map_append, List.length_append]; exact h1
        · exact (Below.heap_setCell _ _ _ _ (by simp)).trans HXB.out
        · exact ((HB1.out.alloc HB1.out.size _).drew.grown HG2.out (by have := HB1.out.size; simp; omega) ((own_from HOW.out).mono (by have := HS2.out; omega))).setCell (p := ⟨w.heap.size, 2, none⟩) (Nat.le_refl _) _
  case rest =>
    obtain ⟨HOX, HXA, HXB, HBX⟩ := hcut
    obtain ⟨A1, c1, rfl, hc1, hm1, hr1, -⟩ := own_row HOX.out
    have HR1 := Lib.hid hr1
    have hm1' : c1 ≤ 9223372036854775807 := by unfold maxLen at hm1; omega
    have HBS1 : Hid (ds1.drop 0 ≠ [] → Bs W.heap.size wc (.slice A1 ds1.length c1) (ds1.drop 0)) := fun h => own_bs HOX.out (List.length_pos_iff.2 h)
    have x00 := cell_of_heap HXA.out 0; have x02 := cell_of_heap HXA.out 2
    have r0 := cell_of_heap HXB.out 0; have r1 := cell_of_heap HXB.out 1
    have z0 := free_of_heap HXB.out 0; have z1 := free_of_heap HXB.out 1
    simp at x00 x02 r0 r1
    clear hr1 hm1 hl he he2 hc hm hsw HOX c00 c02 c03
    go_wp2_with fail
    go_loopg [3] ds1.length (fun g lv wr => ∃ (k : Nat) (l : List Int) (A' : Option Addr) (c' : Nat), lv = .slice A' l.length c' ∧ Hid (l.length = g) ∧ Hid (strip l = strip ds1) ∧ l.length ≤ c' ∧ c' ≤ 9223372036854775807 ∧ Hid (InR 10 l) ∧ l.length ≤ 1000001 ∧ Hid (Row .u8 wc A' l) ∧ Hid (l ≠ [] → Bs W.heap.size wc lv l) ∧ wr = wc)
    case atStart => exact ⟨0, ds1, A1, c1, rfl, rfl, rfl, hc1, hm1', HI1.out, hl1, HR1.out, HBS1.out, rfl⟩
    case round =>
      clear hc1 hm1' HR1 HBS1
      obtain ⟨k, l, A', c', rfl, HG, HST, hc', hm', HIL, hll, HRW, HBS, rfl⟩ := hrel
      cases l with
      | nil =>
        have HV : Hid (vd ds1 = 0) := (strip_nil HI1.out).1 (by rw [← HST.out]; rfl)
        go_wp2_with fail
        refine bodyPost_ret (v := .agg #[.int .i64 0, .int .i64 0]) (by simp [results, Tryz.results155, go_sem, r0, r1]) rfl ?_
        rw [HV.out]
        refine ⟨?_, ?_⟩
        · show _ = roundE s (rnd 0 e1)
          rw [rnd_zero]
          cases s <;> rfl
        · exact (HBX.out.setCell (p := ⟨w.heap.size + 1, 0, none⟩) (by simp) _).setCell (p := ⟨w.heap.size + 1, 1, none⟩) (by simp) _
      | cons d t =>
        rw [List.length_cons] at *
        obtain ⟨a, rfl, hcell⟩ := HRW.out 0 (by simp)
        have hcell : wr.cell? a = some (.int .u8 d) := by have h0 : wr.cell? (a.add 0) = some (.int .u8 d) := hcell; rwa [add_zero] at h0
        by_cases hd : d = 0
        · subst hd
          have HRT := Lib.hid (row_tail HRW.out)
          have HIT := Lib.hid HIL.out.tail
          have HBT := Lib.hid (fun h : c' ≠ 1 => (show Bs W.heap.size wr _ _ from HBS.out (by simp)).tail h)
          have HS1 : Hid (strip t = strip ds1) := by show _ = _; rw [← HST.out]; rfl
          have HGK : Hid (t.length < gk) := by have := HG.out; show _ < _; omega
          go_wp2_with fail
          · have ht : t = [] := List.eq_nil_of_length_eq_zero (by omega)
            have HT := Lib.hid ht
            clear ht
            go_roundg t.length
            case measure => exact HGK.out
            case rel => exact ⟨0, t, some a, 0, rfl, rfl, HS1.out, by rw [HT.out]; exact Nat.le_refl _, by omega, HIT.out, by omega, by rw [HT.out]; exact Row.nil, fun h => absurd HT.out h, rfl⟩
          · have hne : c' ≠ 1 := by assumption
            have HNE := Lib.hid hne
            go_roundg t.length
            case measure => exact HGK.out
            case rel => exact ⟨0, t, some ⟨a.block, a.off + 1, none⟩, c' - 1, rfl, rfl, HS1.out, by have := HNE.out; omega, by omega, HIT.out, by omega, HRT.out, fun _ => HBT.out HNE.out, rfl⟩
        · have HD := Lib.hid hd
          have hd1 : (d == 0) = false := by simpa using hd
          have HN : Hid (vd ds1 = vd (d :: t)) := by show _ = _; rw [← strip_vd ds1, ← HST.out, strip_self hd]
          have HND := Lib.hid (nd_vd HIL.out hd)
          have HNP := Lib.hid (vd_pos HIL.out hd)
          have HBT := Lib.hid (show Bs W.heap.size wr _ _ from HBS.out (by simp))
          obtain ⟨T, hT⟩ : ∃ T, (t.length : Int) + 1 + e1 = T := ⟨_, rfl⟩
          have HT := Lib.hid hT
          have hT1 : -1000000001 ≤ T := by omega
          have hT2 : T ≤ 1000000000 + 1000001 := by omega
          clear hd HST HG HBS
          by_cases t1 : T < -100
          · have HRN : Hid (rnd (vd ds1).toNat e1 = some (0, 0)) := by show _ = _; rw [HN.out]; unfold rnd; rw [if_pos (.inr (by rw [HND.out]; have := HT.out; omega))]
            have hdt : decide (T < -100) = true := decide_eq_true t1
            go_wp2_with fail
            refine bodyPost_ret (v := .agg #[.int .i64 0, .int .i64 0]) (by simp [results, Tryz.results155, go_sem, r0, r1]) rfl ?_
            rw [HRN.out]
            refine ⟨by cases s <;> rfl, (HBX.out.setCell (p := ⟨w.heap.size + 1, 0, none⟩) (by simp) _).setCell (p := ⟨w.heap.size + 1, 1, none⟩) (by simp) _⟩
          · have hdt : decide (T < -100) = false := decide_eq_false t1
            by_cases t2 : T = -100
            · obtain rfl : T = -100 := t2
              obtain ⟨nv, hnv⟩ : ∃ nv, nearV (d :: t) 0 = nv := ⟨_, rfl⟩
              have hnv1 : nv ≤ 1 := by rw [← hnv]; exact near_le _ _
              rcases (show nv = 0 ∨ nv = 1 by omega) with rfl | rfl
              · have HNR : Hid (∀ w', Below wr.heap.size wr w' → Calls Tryz.prog 90 #[.slice (some a) (t.length + 1) c', .int .i64 0] w' fun e w'' => e = .returned (.int .i64 0) ∧ w' = w'') := fun w' hb => by
                  have := near_c (some a) c' (d :: t) 0 w' (HRW.out.below hb) hc' hm' HIL.out (by decide)
                  rw [hnv] at this
                  exact this
                have HRN : Hid (rnd (vd ds1).toNat e1 = some (0, 0)) := by
                  show _ = _
                  rw [HN.out]; unfold rnd
                  rw [if_neg (by rw [HND.out]; have := HT.out; have := HNP.out; omega), if_pos (by rw [HND.out]; have := HT.out; omega), HND.out]
                  rw [near_zero] at hnv
                  have hnv' := hnv
                  rw [List.length_cons] at hnv'
                  split at hnv' <;> first | (exfalso; omega) | (rename_i hh; first | rw [if_pos hh] | rw [if_neg hh])
                clear hnv
                have hw0 : IntKind.i64.wrap 0 = 0 := IntWalk.i64_in _ (by omega)
                have hw1 : IntKind.i64.wrap 100000000000 = 100000000000 := IntWalk.i64_in _ (by omega)
                have hw2 : IntKind.i64.wrap (-111) = -111 := IntWalk.i64_in _ (by omega)
                go_wp2_with fail
                go_region_with (first
                  | (go_at_call 90; (with_reducible refine (HNR.out _ ?_).mono ?_); (first | exact Below.refl _ _ | exact (Below.refl _ _).drew); rintro en w' ⟨rfl, rfl⟩)
                  | (go_at_call 202; (with_reducible refine (put_c s 0 0 _ (by decide) (by decide)).mono ?_); rintro en w3 ⟨rfl, hbz⟩; have hb3 := below_then' (Below.refl wr.heap.size wr).drew hbz; have q0 := cell_of_heap (heapB hb3 HXB.out) 0; have q1 := cell_of_heap (heapB hb3 HXB.out) 1; have y0 := free_of_heap (heapB hb3 HXB.out) 0; have y1 := free_of_heap (heapB hb3 HXB.out) 1; have HB3 := Lib.hid hb3; simp at q0 q1; clear hbz hb3))
                all_goals
                  go_wp2_with fail
                  refine bodyPost_ret (v := .agg #[.int .i64 (sgm s 0), .int .i64 0]) (by simp [results, Tryz.results155, go_sem, q0, q1]) rfl ?_
                  rw [HRN.out]
                  exact ⟨rfl, ((below_then' HBX.out HB3.out).setCell (p := ⟨w.heap.size + 1, 0, none⟩) (by simp) _).setCell (p := ⟨w.heap.size + 1, 1, none⟩) (by simp) _⟩
              · have HNR : Hid (∀ w', Below wr.heap.size wr w' → Calls Tryz.prog 90 #[.slice (some a) (t.length + 1) c', .int .i64 0] w' fun e w'' => e = .returned (.int .i64 1) ∧ w' = w'') := fun w' hb => by
                  have := near_c (some a) c' (d :: t) 0 w' (HRW.out.below hb) hc' hm' HIL.out (by decide)
                  rw [hnv] at this
                  exact this
                have HRN : Hid (rnd (vd ds1).toNat e1 = some (100000000000, (-111))) := by
                  show _ = _
                  rw [HN.out]; unfold rnd
                  rw [if_neg (by rw [HND.out]; have := HT.out; have := HNP.out; omega), if_pos (by rw [HND.out]; have := HT.out; omega), HND.out]
                  rw [near_zero] at hnv
                  have hnv' := hnv
                  rw [List.length_cons] at hnv'
                  split at hnv' <;> first | (exfalso; omega) | (rename_i hh; first | rw [if_pos hh] | rw [if_neg hh])
                clear hnv
                have hw0 : IntKind.i64.wrap 0 = 0 := IntWalk.i64_in _ (by omega)
                have hw1 : IntKind.i64.wrap 100000000000 = 100000000000 := IntWalk.i64_in _ (by omega)
                have hw2 : IntKind.i64.wrap (-111) = -111 := IntWalk.i64_in _ (by omega)
                go_wp2_with fail
                go_region_with (first
                  | (go_at_call 90; (with_reducible refine (HNR.out _ ?_).mono ?_); (first | exact Below.refl _ _ | exact (Below.refl _ _).drew); rintro en w' ⟨rfl, rfl⟩)
                  | (go_at_call 202; (with_reducible refine (put_c s 100000000000 (-111) _ (by decide) (by decide)).mono ?_); rintro en w3 ⟨rfl, hbz⟩; have hb3 := below_then' (Below.refl wr.heap.size wr).drew hbz; have q0 := cell_of_heap (heapB hb3 HXB.out) 0; have q1 := cell_of_heap (heapB hb3 HXB.out) 1; have y0 := free_of_heap (heapB hb3 HXB.out) 0; have y1 := free_of_heap (heapB hb3 HXB.out) 1; have HB3 := Lib.hid hb3; simp at q0 q1; clear hbz hb3))
                all_goals
                  go_wp2_with fail
                  refine bodyPost_ret (v := .agg #[.int .i64 (sgm s 100000000000), .int .i64 (-111)]) (by simp [results, Tryz.results155, go_sem, q0, q1]) rfl ?_
                  rw [HRN.out]
                  exact ⟨rfl, ((below_then' HBX.out HB3.out).setCell (p := ⟨w.heap.size + 1, 0, none⟩) (by simp) _).setCell (p := ⟨w.heap.size + 1, 1, none⟩) (by simp) _⟩
            · have hdu : (T == -100) = false := by simpa using t2
              obtain ⟨n0, hn0⟩ : ∃ n0, 12 - (t.length + 1) = n0 := ⟨_, rfl⟩
              obtain ⟨p, hp⟩ : ∃ p, (d :: t) ++ List.replicate n0 0 = p := ⟨_, rfl⟩
              obtain ⟨hip, hpl, hpm⟩ := man12_of HIL.out HD.out (p := p) (by rw [hn0, hp])
              obtain ⟨M, hM⟩ : ∃ M, man12 (vd (d :: t)).toNat = M := ⟨_, rfl⟩
              obtain ⟨hM1, hM2⟩ := man12_rng HNP.out
              rw [hM] at hpm hM1 hM2
              have HRN : Hid (rnd (vd ds1).toNat e1 = fit M (T - 12)) := by
                show _ = _
                rw [HN.out]; unfold rnd
                rw [if_neg (by rw [HND.out]; have := HT.out; have := HNP.out; omega), if_neg (by rw [HND.out]; have := HT.out; omega), HND.out, hM]
                congr 1
                have := HT.out; omega
              have HIP := Lib.hid hip; have HPM := Lib.hid hpm; have HP := Lib.hid hp
              have HPL := Lib.hid (show p.length ≤ 1000013 from by rw [← hp, List.length_append, List.length_replicate, List.length_cons]; omega)
              clear hip hpm hM hp
              have hn1 : n0 ≤ 12 := by omega
              have HN0 := Lib.hid hn0
              have HX0 := Lib.hid x00
              clear hn0 t1 t2 hll
              obtain ⟨V, rfl⟩ : ∃ V : World, V = wr := ⟨_, rfl⟩
              go_wp2_with fail
              clear hcell x02
              go_loopg [3] n0 (fun g lv wr => ∃ (l : List Int) (A2 : Option Addr) (c2 : Nat), lv = .slice A2 l.length c2 ∧ g ≤ n0 ∧ Hid (l = (d :: t) ++ List.replicate (n0 - g) 0) ∧ Hid (Bs W.heap.size wr lv l) ∧ Hid (Below W.heap.size V wr))
              case atStart => exact ⟨d :: t, some a, c', rfl, Nat.le_refl _, by show _ = _; rw [Nat.sub_self]; simp, HBT.out, Below.refl _ _⟩
              case round =>
                obtain ⟨l, A2, c2, rfl, hg, HL, HBS2, HB2⟩ := hrel
                obtain ⟨A3, c3, e3, hc3, hm3, hrow3⟩ := HBS2.out.row
                obtain ⟨rfl, rfl⟩ : A2 = A3 ∧ c2 = c3 := ⟨(Value.slice.inj e3).1, (Value.slice.inj e3).2.2⟩
                clear e3
                by_cases hg0 : gk = 0
                · subst hg0
                  obtain rfl : l = p := by rw [HL.out, Nat.sub_zero, HP.out]
                  have HROW := Lib.hid hrow3
                  have hpl2 : 12 ≤ l.length := hpl
                  have HPL2 := Lib.hid hpl
                  have hpl3 : l.length ≤ 1000013 := HPL.out
                  obtain ⟨a2, rfl⟩ : ∃ a2, A2 = some a2 := by obtain ⟨a2, e, -⟩ := hrow3 0 (by omega); exact ⟨a2, e⟩
                  have HBV := Lib.hid (HBX.out.trans (HB2.out.mono (show w.heap.size ≤ W.heap.size by have := HS2.out; omega)))
                  have HXB3 : Hid (wr.heap[w.heap.size + 1]? = _) := (HB2.out.block _ (by have := HS2.out; omega)).trans HXB.out
                  have b00 : wr.cell? ⟨w.heap.size, 0, none⟩ = some (.bool s) := (World.cell?_of_block (w := V) (a := ⟨w.heap.size, 0, none⟩) (HB2.out.block _ (by have := HS2.out; show w.heap.size < _; omega))).trans HX0.out
                  clear hrow3 hg
                  go_wp2_with fail
                  obtain ⟨nv, hnv⟩ : ∃ nv, nearV (l.drop 12) (vd (l.take 12)).toNat = nv := ⟨_, rfl⟩
                  have hnv1 : nv ≤ 1 := by rw [← hnv]; exact near_le _ _
                  have HNV := Lib.hid hnv
                  clear hnv
                  go_loopg [5, 67] 12 (fun g mv iv wr3 => ∃ (k : Nat) (m : Int), iv = .int .i64 (k : Int) ∧ k + g = 12 ∧ mv = .int .i64 m ∧ Hid (m = vd (l.take k)) ∧ 0 ≤ m ∧ m ≤ 999999999999 ∧ wr3 = wr)
                  case atStart => exact ⟨0, 0, rfl, rfl, rfl, by show _ = _; simp [vd], by omega, by omega, rfl⟩
                  case round =>
                    obtain ⟨k, m, rfl, hk, rfl, HM, hm0, hm9, rfl⟩ := hrel
                    have HK := Lib.hid hk
                    by_cases hk12 : k < 12
                    · have hkl : k < l.length := by omega
                      obtain ⟨a9, e9, hcell⟩ := HROW.out k hkl
                      cases e9
                      have hin := HIP.out.at_ (by decide) k
                      rw [List.getD_eq_getElem?_getD] at hin
                      have HT2 := Lib.hid (drop_take hkl)
                      have hvl := vd_lt (HIP.out.take (k + 1))
                      have hvn := vd_nonneg (HIP.out.take (k + 1))
                      obtain ⟨x, hx⟩ : ∃ x, l[k]?.getD 0 = x := ⟨_, rfl⟩
                      rw [hx] at hcell hin HT2
                      have hin9 : x < 10 := hin.2
                      have hin0 := hin.1
                      have HST : Hid (10 * m + x = vd (l.take (k + 1))) := by show _ = _; rw [HT2.out, vd_snoc, HM.out]
                      have hlim : vd (l.take (k + 1)) < 1000000000000 := by
                        rw [List.length_take, show min (k + 1) l.length = k + 1 by omega] at hvl
                        have hpw := pow_mono' (b := 10) (i := k + 1) (j := 12) (by decide) (by omega)
                        simp only [Int.cast_ofNat_Int] at hpw
                        have hpe : (10 : Int) ^ 12 = 1000000000000 := by decide
                        omega
                      have hb1 : 10 * m + x ≤ 999999999999 := by rw [HST.out]; omega
                      have hb2 : 0 ≤ 10 * m + x := by rw [HST.out]; omega
                      have hwr : IntKind.i64.wrap x = x := IntWalk.i64_in _ (by omega)
                      clear hx hin hvl hvn hlim hk
                      go_wp2_with fail
                      go_roundg (gk - 1)
                      case measure => have := HK.out; omega
                      case rel => exact ⟨k + 1, 10 * m + x, by go_num, by have := HK.out; omega, rfl, HST.out, hb2, hb1, rfl⟩
                    · obtain rfl : k = 12 := by omega
                      obtain ⟨q, rfl⟩ : ∃ q : Nat, m = (q : Int) := ⟨m.toNat, by omega⟩
                      have HQ : Hid ((vd (l.take 12)).toNat = q) := by show _ = _; rw [← HM.out]; rfl
                      have HQM : Hid (q + nv = M) := by have := HPM.out; rw [HNV.out, HQ.out] at this; exact this
                      have hqm : (q : Int) + (nv : Int) = (M : Int) := by have := HQM.out; omega
                      clear hk hk12
                      by_cases hc12 : c2 = 12
                      · subst hc12
                        have hl12 : l.length = 12 := by omega
                        have HN1 : Hid (Calls Tryz.prog 90 #[.slice (some a2) 0 0, .int .i64 (q : Int)] wr fun e w' => e = .returned (.int .i64 (nv : Int)) ∧ wr = w') := by
                          have hnil : l.drop 12 = [] := List.drop_eq_nil_of_le (by omega)
                          have h1 := near_c (some a2) 0 [] q wr Row.nil (Nat.le_refl _) (by omega) (InR.nil 10) (by omega)
                          have h2 : nearV [] q = nv := by have := HNV.out; rw [HQ.out, hnil] at this; exact this
                          rw [h2] at h1
                          exact h1
                        clear hl12
                        by_cases hMM : M = 1000000000000
                        · have hx1 : ((M : Int) == 1000000000000) = true := by rw [hMM]; rfl
                          by_cases hX : 88 < T - 12 + 1
                          · have HFIT : Hid (fit M (T - 12) = none) := by show _ = _; unfold fit; rw [if_pos hMM, if_pos hX]
                            clear hMM
                            go_wp2_with (go_at_call 90; (with_reducible refine (HN1.out).mono ?_); rintro en w' ⟨rfl, rfl⟩)
                            rw [HRN.out, HFIT.out]
                            exact ⟨rfl, rfl, HBV.out⟩
                          · have HFIT : Hid (fit M (T - 12) = some (100000000000, T - 12 + 1)) := by show _ = _; unfold fit; rw [if_pos hMM, if_neg hX]
                            clear hMM
                            go_wp2_with (first | (go_at_call 90; (with_reducible refine (HN1.out).mono ?_); rintro en w' ⟨rfl, rfl⟩) | (go_at_call 202; (with_reducible refine (put_c s 100000000000 (T - 12 + 1) _ (by omega) (by omega)).mono ?_); rintro en w3 ⟨rfl, hbz⟩; have hb3 := hbz; have q0 := cell_of_heap (heapB hb3 HXB3.out) 0; have q1 := cell_of_heap (heapB hb3 HXB3.out) 1; have y0 := free_of_heap (heapB hb3 HXB3.out) 0; have y1 := free_of_heap (heapB hb3 HXB3.out) 1; have HB3 := Lib.hid hb3; simp at q0 q1; clear hbz hb3))
                            refine bodyPost_ret (v := .agg #[.int .i64 (sgm s 100000000000), .int .i64 ((T - 12 + 1))]) (by simp [results, Tryz.results155, go_sem, q0, q1]) rfl ?_
                            rw [HRN.out, HFIT.out]
                            exact ⟨rfl, ((below_then' HBV.out HB3.out).setCell (p := ⟨w.heap.size + 1, 0, none⟩) (by simp) _).setCell (p := ⟨w.heap.size + 1, 1, none⟩) (by simp) _⟩
                        · have hx1 : ((M : Int) == 1000000000000) = false := by rw [beq_eq_false_iff_ne]; omega
                          by_cases hX : 88 < T - 12
                          · have HFIT : Hid (fit M (T - 12) = none) := by show _ = _; unfold fit; rw [if_neg hMM, if_pos hX]
                            clear hMM
                            go_wp2_with (go_at_call 90; (with_reducible refine (HN1.out).mono ?_); rintro en w' ⟨rfl, rfl⟩)
                            rw [HRN.out, HFIT.out]
                            exact ⟨rfl, rfl, HBV.out⟩
                          · have HFIT : Hid (fit M (T - 12) = some (M, T - 12)) := by show _ = _; unfold fit; rw [if_neg hMM, if_neg hX]
                            clear hMM
                            go_wp2_with (first | (go_at_call 90; (with_reducible refine (HN1.out).mono ?_); rintro en w' ⟨rfl, rfl⟩) | (go_at_call 202; (with_reducible refine (put_c s (M : Int) (T - 12) _ (by omega) (by omega)).mono ?_); rintro en w3 ⟨rfl, hbz⟩; have hb3 := hbz; have q0 := cell_of_heap (heapB hb3 HXB3.out) 0; have q1 := cell_of_heap (heapB hb3 HXB3.out) 1; have y0 := free_of_heap (heapB hb3 HXB3.out) 0; have y1 := free_of_heap (heapB hb3 HXB3.out) 1; have HB3 := Lib.hid hb3; simp at q0 q1; clear hbz hb3))
                            refine bodyPost_ret (v := .agg #[.int .i64 (sgm s (M : Int)), .int .i64 ((T - 12))]) (by simp [results, Tryz.results155, go_sem, q0, q1]) rfl ?_
                            rw [HRN.out, HFIT.out]
                            exact ⟨rfl, ((below_then' HBV.out HB3.out).setCell (p := ⟨w.heap.size + 1, 0, none⟩) (by simp) _).setCell (p := ⟨w.heap.size + 1, 1, none⟩) (by simp) _⟩
                      · have HN1 : Hid (Calls Tryz.prog 90 #[.slice (some ⟨a2.block, a2.off + 12, none⟩) (l.length - 12) (c2 - 12), .int .i64 (q : Int)] wr fun e w' => e = .returned (.int .i64 (nv : Int)) ∧ wr = w') := by
                          have h1 := near_c (some ⟨a2.block, a2.off + 12, none⟩) (c2 - 12) (l.drop 12) q wr (row_drop (by decide) HROW.out) (by rw [List.length_drop]; omega) (by omega) (HIP.out.drop 12) (by omega)
                          have h2 : nearV (l.drop 12) q = nv := by have := HNV.out; rw [HQ.out] at this; exact this
                          rw [h2, List.length_drop] at h1
                          exact h1
                        by_cases hMM : M = 1000000000000
                        · have hx1 : ((M : Int) == 1000000000000) = true := by rw [hMM]; rfl
                          by_cases hX : 88 < T - 12 + 1
                          · have HFIT : Hid (fit M (T - 12) = none) := by show _ = _; unfold fit; rw [if_pos hMM, if_pos hX]
                            clear hMM
                            go_wp2_with (go_at_call 90; (with_reducible refine (HN1.out).mono ?_); rintro en w' ⟨rfl, rfl⟩)
                            rw [HRN.out, HFIT.out]
                            exact ⟨rfl, rfl, HBV.out⟩
                          · have HFIT : Hid (fit M (T - 12) = some (100000000000, T - 12 + 1)) := by show _ = _; unfold fit; rw [if_pos hMM, if_neg hX]
                            clear hMM
                            go_wp2_with (first | (go_at_call 90; (with_reducible refine (HN1.out).mono ?_); rintro en w' ⟨rfl, rfl⟩) | (go_at_call 202; (with_reducible refine (put_c s 100000000000 (T - 12 + 1) _ (by omega) (by omega)).mono ?_); rintro en w3 ⟨rfl, hbz⟩; have hb3 := hbz; have q0 := cell_of_heap (heapB hb3 HXB3.out) 0; have q1 := cell_of_heap (heapB hb3 HXB3.out) 1; have y0 := free_of_heap (heapB hb3 HXB3.out) 0; have y1 := free_of_heap (heapB hb3 HXB3.out) 1; have HB3 := Lib.hid hb3; simp at q0 q1; clear hbz hb3))
                            refine bodyPost_ret (v := .agg #[.int .i64 (sgm s 100000000000), .int .i64 ((T - 12 + 1))]) (by simp [results, Tryz.results155, go_sem, q0, q1]) rfl ?_
                            rw [HRN.out, HFIT.out]
                            exact ⟨rfl, ((below_then' HBV.out HB3.out).setCell (p := ⟨w.heap.size + 1, 0, none⟩) (by simp) _).setCell (p := ⟨w.heap.size + 1, 1, none⟩) (by simp) _⟩
                        · have hx1 : ((M : Int) == 1000000000000) = false := by rw [beq_eq_false_iff_ne]; omega
                          by_cases hX : 88 < T - 12
                          · have HFIT : Hid (fit M (T - 12) = none) := by show _ = _; unfold fit; rw [if_neg hMM, if_pos hX]
                            clear hMM
                            go_wp2_with (go_at_call 90; (with_reducible refine (HN1.out).mono ?_); rintro en w' ⟨rfl, rfl⟩)
                            rw [HRN.out, HFIT.out]
                            exact ⟨rfl, rfl, HBV.out⟩
                          · have HFIT : Hid (fit M (T - 12) = some (M, T - 12)) := by show _ = _; unfold fit; rw [if_neg hMM, if_neg hX]
                            clear hMM
                            go_wp2_with (first | (go_at_call 90; (with_reducible refine (HN1.out).mono ?_); rintro en w' ⟨rfl, rfl⟩) | (go_at_call 202; (with_reducible refine (put_c s (M : Int) (T - 12) _ (by omega) (by omega)).mono ?_); rintro en w3 ⟨rfl, hbz⟩; have hb3 := hbz; have q0 := cell_of_heap (heapB hb3 HXB3.out) 0; have q1 := cell_of_heap (heapB hb3 HXB3.out) 1; have y0 := free_of_heap (heapB hb3 HXB3.out) 0; have y1 := free_of_heap (heapB hb3 HXB3.out) 1; have HB3 := Lib.hid hb3; simp at q0 q1; clear hbz hb3))
                            refine bodyPost_ret (v := .agg #[.int .i64 (sgm s (M : Int)), .int .i64 ((T - 12))]) (by simp [results, Tryz.results155, go_sem, q0, q1]) rfl ?_
                            rw [HRN.out, HFIT.out]
                            exact ⟨rfl, ((below_then' HBV.out HB3.out).setCell (p := ⟨w.heap.size + 1, 0, none⟩) (by simp) _).setCell (p := ⟨w.heap.size + 1, 1, none⟩) (by simp) _⟩
                · obtain ⟨g, rfl⟩ : ∃ g, gk = g + 1 := ⟨gk - 1, by omega⟩
                  have hl12 : l.length < 12 := by
                    have h1 := congrArg List.length HL.out
                    rw [List.length_append, List.length_replicate, List.length_cons] at h1
                    have := HN0.out
                    omega
                  have HEQ : Hid (l ++ [0] = (d :: t) ++ List.replicate (n0 - g) 0) := by
                    show _ = _
                    rw [HL.out, show n0 - g = (n0 - (g + 1)) + 1 by omega, List.replicate_succ', List.append_assoc]
                  clear hrow3
                  go_wp2_with (at_builtin; refine wp_bpush rfl _ _ rfl rfl HBS2.out 0 rfl (by omega) ?_; intro v' w' hbs hbl; obtain ⟨A9, c9, rfl, -, -, -⟩ := hbs.row; have HBS3 := Lib.hid hbs; have HBL := Lib.hid hbl; clear hbs hbl)
                  go_roundg g
                  case measure => omega
                  case rel => exact ⟨l ++ [0], A9, c9, by rw [List.length_append]; rfl, by omega, HEQ.out, by have h3 := HBS3.out; rw [List.length_append] at h3; exact h3, HB2.out.trans HBL.out⟩
end Go.Proofs.YtekbfommnmikbaaGreatDoor
/- Package real: rounded: what has panicked becomes an error. -/
namespace Go.Proofs.YtekbfommnmikbaaGreatDoor
set_option linter.unusedVariables false
set_option linter.unusedSimpArgs false
open Go.RowKit Go.Shelf Go.Proofs

theorem rec_idle (p q : Addr) (w : World) :
    CallsD Tryz.prog 154 #[.pointer (some p), .pointer (some q)] .returning w fun e u' w' => e = .returned (.tuple #[]) ∧ u' = .returning ∧ w' = w := by
  refine callsD_of_wpS Tryz.func154 rfl fun c₀ cs hu => ?_
  apply wpS_seq
  apply wpS_region
  simp [wpOpsS, go_sem, recoverD, hu, Tryz.ntmps154, Exit.thenS]
  refine wpS_of_wp ?_
  simp only [Array.replicate_succ, Array.replicate_zero, List.push_toArray, List.append_toArray, List.nil_append, List.cons_append, List.setIfInBounds_toArray, List.set_cons_zero, List.set_cons_succ]
  go_wp2
  cases c₀
  simp_all [bodyPostS, results, Tryz.results154]

set_option maxRecDepth 100000 in
set_option maxHeartbeats 1000000 in
theorem rec_panic (P Q : Nat) (m x k : Int) (w : World) (hP : w.heap[P]? = some (.cells #[.int .i64 m, .int .i64 x] 23 (0, 0))) (hQ : w.heap[Q]? = some (.cells #[.int .i64 k] 24 (0, 0))) (hPQ : P ≠ Q) :
    CallsD Tryz.prog 154 #[.pointer (some ⟨P, 0, none⟩), .pointer (some ⟨Q, 0, none⟩)] (.panicking bigChain) w fun e u' w' => e = .returned (.tuple #[]) ∧ u' = .panicking [{ v := .iface 146 (.agg #[]), recovered := true }] ∧ w' = (((w.alloc (.cells #[] 146)).setCell ⟨P, 0, none⟩ (.int .i64 0)).setCell ⟨P, 1, none⟩ (.int .i64 0)).setCell ⟨Q, 0, none⟩ (.int .i64 3) := by
  have hta : ∀ (xT : TypeId) (w : World), (Instr.typeAssert (.iface 146 (.agg #[])) xT 146 true).run Tryz.prog w = .ok (.tuple #[.agg #[], .bool true]) w := fun xT w => by rfl
  have hP' := heap_old (.cells #[] 146) hP
  have hQ' := heap_old (.cells #[] 146) hQ
  have c0 := cell_of_heap hP' 0; have c1 := cell_of_heap hP' 1; have d0 := cell_of_heap hQ' 0
  have f0 := free_of_heap hP' 0; have f1 := free_of_heap hP' 1; have g0 := free_of_heap hQ' 0
  simp at c0 c1 d0
  have d1 := set_far (a := ⟨P, 0, none⟩) (.int .i64 0) hPQ d0
  clear hP hQ hP' hQ' hPQ
  unfold bigChain
  refine callsD_of_wpS Tryz.func154 rfl fun c₀ cs hu => ?_
  apply wpS_seq
  apply wpS_region
  simp [wpOpsS, go_sem, recoverD, hu, Tryz.ntmps154, Exit.thenS]
  refine wpS_of_wp ?_
  have HU := Lib.hid hu
  clear hu
  simp only [Array.replicate_succ, Array.replicate_zero, List.push_toArray, List.append_toArray, List.nil_append, List.cons_append, List.setIfInBounds_toArray, List.set_cons_zero, List.set_cons_succ]
  go_wp2
  have hu := HU.out
  clear hta c0 c1 d0 d1 f0 f1 g0 HU
  cases c₀
  simp_all [bodyPostS, results, Tryz.results154]

/-- What rounded returns. -/
def resR (s : Bool) : Option (Nat × Int) → Value
  | some (m, x) => .tuple #[.agg #[.int .i64 (sgm s m), .int .i64 x], .int .i64 0]
  | none => .tuple #[.agg #[.int .i64 0, .int .i64 0], .int .i64 3]
theorem bx3h (w : World) (a0 a1 a2 : Array Value) (t0 t1 t2 : TypeId) : ∃ W, ((w.alloc (.cells a0 t0)).alloc (.cells a1 t1)).alloc (.cells a2 t2) = W ∧ W.heap[w.heap.size]? = some (.cells a0 t0 (0, 0)) ∧ W.heap[w.heap.size + 1]? = some (.cells a1 t1 (0, 0)) ∧ W.heap[w.heap.size + 2]? = some (.cells a2 t2 (0, 0)) ∧ Below w.heap.size w W :=
  ⟨_, rfl, heap_old _ (heap_old _ (heap_alloc_new _ _)), heap_old _ (heap_new' _ _ _ (by simp)), heap_new' _ _ _ (by simp), (((Below.refl _ _).alloc (Nat.le_refl _) _).alloc (by simp) _).alloc (by simp; omega) _⟩

set_option maxRecDepth 100000 in
set_option maxHeartbeats 2000000 in
theorem rounded_c (s : Bool) (A : Option Addr) (c : Nat) (ds : List Int) (e : Int) (more : Bool) (w : World) (hr : Row .u8 w A ds) (hc : ds.length ≤ c) (hm : c ≤ 9223372036854775807) (hi : InR 10 ds) (hl : ds.length ≤ 1000000) (he : -1000000000 ≤ e) (he2 : e ≤ 1000000000) :
    Calls Tryz.prog 88 #[.agg #[.bool s, .slice A ds.length c, .int .i64 e, .bool more]] w fun en w' => en = .returned (resR s (rnd (vd (withMore ds more)).toNat (expMore e more))) ∧ Below w.heap.size w w' := by
  obtain ⟨W, hW, k0, k1, k2, hbel⟩ := bx3h w #[.bool s, .slice A ds.length c, .int .i64 e, .bool more] #[.int .i64 0, .int .i64 0] #[.int .i64 0] 95 23 24
  have c00 := cell_of_heap k0 0; have c01 := cell_of_heap k0 1; have c02 := cell_of_heap k0 2; have c03 := cell_of_heap k0 3
  simp at c00 c01 c02 c03
  have HR := Lib.hid (hr.below hbel)
  have HK1 := Lib.hid k1; have HK2 := Lib.hid k2; have HBEL := Lib.hid hbel
  have HI := Lib.hid hi
  obtain ⟨o, ho⟩ : ∃ o, rnd (vd (withMore ds more)).toNat (expMore e more) = o := ⟨_, rfl⟩
  rw [ho]
  have HO := Lib.hid ho
  clear hr k0 k1 k2 hbel hi ho
  go_enter_defers Tryz.func88, Tryz.ntmps88
  cases o with
  | none =>
    go_wp2_with (go_at_call 155; (with_reducible refine (round_c s A c ds e more _ HR.out hc hm HI.out hl he he2).mono ?_); rintro en W2 ⟨hen, hbz⟩; rw [HO.out] at hen; have hen2 : en = .panicked bigChain := hen; subst hen2; have HB2 := Lib.hid hbz; clear hbz hen)
    have k1 := heapB HB2.out HK1.out
    have k2 := heapB HB2.out HK2.out
    refine leaves_cons (f := 154) (args := #[.pointer (some ⟨w.heap.size + 1, 0, none⟩), .pointer (some ⟨w.heap.size + 2, 0, none⟩)]) (by simp) (by simp [go_sem]) ?_
    refine (rec_panic (w.heap.size + 1) (w.heap.size + 2) 0 0 0 _ k1 k2 (by omega)).mono ?_
    rintro en u' w'' ⟨rfl, rfl, rfl⟩
    have j1 := putB (putB (heap_old (.cells #[] 146) k1) 0 (.int .i64 0)) 1 (.int .i64 0)
    have j1' := (Below.heap_setCell (((W2.alloc (.cells #[] 146)).setCell ⟨w.heap.size + 1, 0, none⟩ (.int .i64 0)).setCell ⟨w.heap.size + 1, 1, none⟩ (.int .i64 0)) ⟨w.heap.size + 2, 0, none⟩ (.int .i64 3) (w.heap.size + 1) (by simp)).trans j1
    have j2 := putB ((Below.heap_setCell ((W2.alloc (.cells #[] 146)).setCell ⟨w.heap.size + 1, 0, none⟩ (.int .i64 0)) ⟨w.heap.size + 1, 1, none⟩ (.int .i64 0) (w.heap.size + 2) (by simp)).trans ((Below.heap_setCell (W2.alloc (.cells #[] 146)) ⟨w.heap.size + 1, 0, none⟩ (.int .i64 0) (w.heap.size + 2) (by simp)).trans (heap_old _ k2))) 0 (.int .i64 3)
    have r0 := cell_of_heap j1' 0; have r1 := cell_of_heap j1' 1; have r2 := cell_of_heap j2 0
    simp at r0 r1 r2
    have hbl : Below w.heap.size w ((((W2.alloc (.cells #[] 146)).setCell ⟨w.heap.size + 1, 0, none⟩ (.int .i64 0)).setCell ⟨w.heap.size + 1, 1, none⟩ (.int .i64 0)).setCell ⟨w.heap.size + 2, 0, none⟩ (.int .i64 3)) := by
      have h0 := below_then' HBEL.out HB2.out
      exact (((h0.alloc h0.size _).setCell (p := ⟨w.heap.size + 1, 0, none⟩) (by simp) _).setCell (p := ⟨w.heap.size + 1, 1, none⟩) (by simp) _).setCell (p := ⟨w.heap.size + 2, 0, none⟩) (by simp) _
    simp [Leaves, settle, results, Tryz.results88, go_sem, r0, r1, r2]
    exact ⟨rfl, hbl⟩
  | some p =>
    obtain ⟨m, x⟩ := p
    go_wp2_with (go_at_call 155; (with_reducible refine (round_c s A c ds e more _ HR.out hc hm HI.out hl he he2).mono ?_); rintro en W2 ⟨hen, hbz⟩; rw [HO.out] at hen; have hen2 : en = .returned (.agg #[.int .i64 (sgm s m), .int .i64 x]) := hen; subst hen2; have k1 := heapB hbz HK1.out; have k2 := heapB hbz HK2.out; have b0 := cell_of_heap k1 0; have b1 := cell_of_heap k1 1; have b2 := cell_of_heap k2 0; have f0 := free_of_heap k1 0; have f1 := free_of_heap k1 1; have f2 := free_of_heap k2 0; have HB2 := Lib.hid hbz; have HX1 := Lib.hid k1; have HX2 := Lib.hid k2; simp at b0 b1 b2; clear hbz hen k1 k2)
    refine leaves_cons (f := 154) (args := #[.pointer (some ⟨w.heap.size + 1, 0, none⟩), .pointer (some ⟨w.heap.size + 2, 0, none⟩)]) (by simp) (by simp [go_sem]) ?_
    refine (rec_idle ⟨w.heap.size + 1, 0, none⟩ ⟨w.heap.size + 2, 0, none⟩ _).mono ?_
    rintro en u' w'' ⟨rfl, rfl, rfl⟩
    have j1 := putB (putB HX1.out 0 (.int .i64 (sgm s m))) 1 (.int .i64 x)
    have j1' := (Below.heap_setCell ((W2.setCell ⟨w.heap.size + 1, 0, none⟩ (.int .i64 (sgm s m))).setCell ⟨w.heap.size + 1, 1, none⟩ (.int .i64 x)) ⟨w.heap.size + 2, 0, none⟩ (.int .i64 0) (w.heap.size + 1) (by simp)).trans j1
    have j2 := putB ((Below.heap_setCell (W2.setCell ⟨w.heap.size + 1, 0, none⟩ (.int .i64 (sgm s m))) ⟨w.heap.size + 1, 1, none⟩ (.int .i64 x) (w.heap.size + 2) (by simp)).trans ((Below.heap_setCell W2 ⟨w.heap.size + 1, 0, none⟩ (.int .i64 (sgm s m)) (w.heap.size + 2) (by simp)).trans HX2.out)) 0 (.int .i64 0)
    have r0 := cell_of_heap j1' 0; have r1 := cell_of_heap j1' 1; have r2 := cell_of_heap j2 0
    simp at r0 r1 r2
    have hbl : Below w.heap.size w (((W2.setCell ⟨w.heap.size + 1, 0, none⟩ (.int .i64 (sgm s m))).setCell ⟨w.heap.size + 1, 1, none⟩ (.int .i64 x)).setCell ⟨w.heap.size + 2, 0, none⟩ (.int .i64 0)) := by
      have h0 := below_then' HBEL.out HB2.out
      exact ((h0.setCell (p := ⟨w.heap.size + 1, 0, none⟩) (by simp) _).setCell (p := ⟨w.heap.size + 1, 1, none⟩) (by simp) _).setCell (p := ⟨w.heap.size + 2, 0, none⟩) (by simp) _
    simp [Leaves, settle, results, Tryz.results88, go_sem, r0, r1, r2]
    exact ⟨rfl, hbl⟩
end Go.Proofs.YtekbfommnmikbaaGreatDoor
/- Package real: the amount of a real. -/
namespace Go.Proofs.YtekbfommnmikbaaGreatDoor
set_option linter.unusedVariables false
set_option linter.unusedSimpArgs false
open Go.RowKit Go.Shelf Go.Proofs
attribute [local go_sem ↓] Go.wp_at_zero Go.wp_at_succ

theorem belowT {V w w' : World} (h : Below V.heap.size V w) (hb : Below w.heap.size w w') : Below V.heap.size V w' := h.trans (hb.mono h.size)
theorem belowA {V w : World} (h : Below V.heap.size V w) (o : Obj) : Below V.heap.size V (w.alloc o) := h.alloc h.size o

/-- v is an amount: the sign, digits, an exponent, more. -/
def Amt (w : World) (v : Value) (s : Bool) (ds : List Int) (e : Int) (more : Bool) : Prop := ∃ A c, v = .agg #[.bool s, .slice A ds.length c, .int .i64 e, .bool more] ∧ ds.length ≤ c ∧ c ≤ 9223372036854775807 ∧ Row .u8 w A ds
theorem Amt.below {w w' : World} {v : Value} {s more : Bool} {ds : List Int} {e : Int} (h : Amt w v s ds e more) (hb : Below w.heap.size w w') : Amt w' v s ds e more := by
  obtain ⟨A, c, h1, h2, h3, h4⟩ := h
  exact ⟨A, c, h1, h2, h3, h4.below hb⟩
/-- A call returns an amount, its digits in an array that is new (or nowhere). -/
def AmtP (s : Bool) (ds : List Int) (e : Int) (more : Bool) (w : World) (en : Ending) (w' : World) : Prop := ∃ v, en = .returned v ∧ Amt w' v s ds e more ∧ Below w.heap.size w w'
theorem rounded_a {v : Value} {s more : Bool} {ds : List Int} {e : Int} {w : World} (h : Amt w v s ds e more) (hi : InR 10 ds) (hl : ds.length ≤ 1000000) (he : -1000000000 ≤ e) (he2 : e ≤ 1000000000) :
    Calls Tryz.prog 88 #[v] w fun en w' => en = .returned (resR s (rnd (vd (withMore ds more)).toNat (expMore e more))) ∧ Below w.heap.size w w' := by
  obtain ⟨A, c, rfl, h2, h3, h4⟩ := h
  exact rounded_c s A c ds e more w h4 h2 h3 hi hl he he2

/-- An amount stored into a box. -/
theorem amt_put {w : World} {B n c : Nat} {A : Option Addr} {s more : Bool} {e : Int} {z0 z1 z2 z3 : Value} {t : TypeId} (h : w.heap[B]? = some (.cells #[z0, z1, z2, z3] t (0, 0))) :
    ∃ F, (((w.setCell ⟨B, 0, none⟩ (.bool s)).setCell ⟨B, 1, none⟩ (.slice A n c)).setCell ⟨B, 2, none⟩ (.int .i64 e)).setCell ⟨B, 3, none⟩ (.bool more) = F ∧ F.heap[B]? = some (.cells #[.bool s, .slice A n c, .int .i64 e, .bool more] t (0, 0)) ∧ (∀ k w0, k ≤ B → Below k w0 w → Below k w0 F) ∧ (∀ g, g ≠ B → F.heap[g]? = w.heap[g]?) := by
  have h1 := putB h 0 (.bool s)
  have h2 := putB h1 1 (.slice A n c)
  have h3 := putB h2 2 (.int .i64 e)
  have h4 := putB h3 3 (.bool more)
  refine ⟨_, rfl, by simpa using h4, fun k w0 hk hb => (((hb.setCell (p := ⟨B, 0, none⟩) hk _).setCell (p := ⟨B, 1, none⟩) hk _).setCell (p := ⟨B, 2, none⟩) hk _).setCell (p := ⟨B, 3, none⟩) hk _, fun g hg => ?_⟩
  rw [Below.heap_setCell _ _ _ _ hg, Below.heap_setCell _ _ _ _ hg, Below.heap_setCell _ _ _ _ hg, Below.heap_setCell _ _ _ _ hg]
theorem row_keep {k : IntKind} {w F : World} {A : Option Addr} {xs : List Int} {B n c k0 : Nat} (h : Row k w A xs) (hf : FromB k0 (.slice A n c)) (hk : B < k0) (hF : ∀ g, g ≠ B → F.heap[g]? = w.heap[g]?) : Row k F A xs :=
  h.same fun a ha => hF _ (by have := hf a.block (by rw [ha]; rfl); omega)

set_option maxRecDepth 100000 in
set_option maxHeartbeats 2000000 in
theorem amountOf_c (m x : Int) (w : World) (hm : m.natAbs < 10 ^ 18) : Calls Tryz.prog 87 #[.agg #[.int .i64 m, .int .i64 x]] w (AmtP (decide (m < 0)) (dg 10 m.natAbs).reverse x false w) := by
  obtain ⟨W, hW, k0, k1, hbel, hsz⟩ := bx2h w #[.int .i64 m, .int .i64 x] #[.bool false, .slice none 0 0, .int .i64 0, .bool false] 23 95
  have c00 := cell_of_heap k0 0; have c01 := cell_of_heap k0 1
  simp at c00 c01
  have HK0 := Lib.hid k0; have HK1 := Lib.hid k1; have HBEL := Lib.hid hbel; have HSZ := Lib.hid hsz
  have HM := Lib.hid hm
  have hm0 : -9223372036854775807 ≤ m := by omega
  have hm1 : m ≤ 9223372036854775807 := by omega
  obtain ⟨N, hN⟩ : ∃ N, m.natAbs = N := ⟨_, rfl⟩
  rw [hN] at HM ⊢
  have HN := Lib.hid hN
  obtain ⟨ds, hds⟩ : ∃ ds, (dg 10 N).reverse = ds := ⟨_, rfl⟩
  rw [hds]
  have HDS := Lib.hid hds
  obtain ⟨s, hs⟩ : ∃ s, decide (m < 0) = s := ⟨_, rfl⟩
  rw [hs]
  have hsz2 : w.heap.size + 1 < W.heap.size := by omega
  have HSS : Hid (∀ w', Bel (w.heap.size + 1) W w' → w'.cell? ⟨w.heap.size, 0, none⟩ = some (.int .i64 m) ∧ w'.cell? ⟨w.heap.size, 1, none⟩ = some (.int .i64 x) ∧ Bel (w.heap.size + 1) W w') := fun w' h => ⟨(h.to_.cell (p := ⟨w.heap.size, 0, none⟩) (by simp)).trans c00, (h.to_.cell (p := ⟨w.heap.size, 1, none⟩) (by simp)).trans c01, h⟩
  have hbl := Bel.refl (w.heap.size + 1) W (by omega)
  clear k0 k1 hbel hsz hm hN hds
  go_enter Tryz.func87, Tryz.ntmps87
  go_upto_region 1 with fail
  go_region_held3 (fun w' => w'.cell? ⟨w.heap.size, 0, none⟩ = some (.int .i64 m) ∧ w'.cell? ⟨w.heap.size, 1, none⟩ = some (.int .i64 x) ∧ Bel (w.heap.size + 1) W w')
    ((go_split_ands; (with_reducible refine HSS.out _ ?_); (repeat (first | (with_reducible assumption) | (with_reducible refine Bel.call ?_ hbz) | (with_reducible refine Bel.alloc ?_ _) | (with_reducible refine Bel.drew ?_) | (with_reducible refine Bel.set ?_ _ (by first | exact Nat.le_refl _ | (simp; done) | (simp; omega)))))))
    (first
      | (go_at_call 100; (with_reducible refine (size_c m _ hm0 hm1).mono ?_); rintro en w' ⟨rfl, rfl⟩; rw [HN.out])
      | (go_at_call 89; (with_reducible refine (digitsOf_c N _ HM.out).mono ?_); rintro en w' ⟨v, rfl, hv, hf, hbz⟩; rw [HDS.out] at hv; obtain ⟨A9, c9, rfl, hc9, hm9, hr9⟩ := hv; have HR9 := Lib.hid hr9; have HC9 := Lib.hid (And.intro hc9 hm9); have HF9 := Lib.hid hf; go_split_ands; have HB9 := Lib.hid (below_then' (show Below W.heap.size W _ from by first | exact Below.refl _ _ | exact (Below.refl _ _).drew) hbz); have q := heapB HB9.out HK1.out; have q0 := cell_of_heap q 0; have q1 := cell_of_heap q 1; have q2 := cell_of_heap q 2; have q3 := cell_of_heap q 3; have y0 := free_of_heap q 0; have y1 := free_of_heap q 1; have y2 := free_of_heap q 2; have y3 := free_of_heap q 3; have HQ := Lib.hid q; simp at q0 q1 q2 q3; clear hr9 hf hc9 hm9 q))
  all_goals
    go_wp2_with fail
    obtain ⟨F, hF, hb, hk, ho⟩ := amt_put (s := s) (n := ds.length) (c := c9) (A := A9) (e := x) (more := false) HQ.out
    rw [hF]
    have r0 := cell_of_heap hb 0; have r1 := cell_of_heap hb 1; have r2 := cell_of_heap hb 2; have r3 := cell_of_heap hb 3
    simp at r0 r1 r2 r3
    refine bodyPost_ret (v := .agg #[.bool s, .slice A9 ds.length c9, .int .i64 x, .bool false]) (by simp [results, Tryz.results87, go_sem, r0, r1, r2, r3]) rfl ?_
    exact ⟨_, rfl, ⟨A9, c9, rfl, HC9.out.1, HC9.out.2, row_keep HR9.out HF9.out (by have := HSZ.out; simp; omega) ho⟩, hk _ _ (by simp) (below_then' HBEL.out HB9.out)⟩
end Go.Proofs.YtekbfommnmikbaaGreatDoor
