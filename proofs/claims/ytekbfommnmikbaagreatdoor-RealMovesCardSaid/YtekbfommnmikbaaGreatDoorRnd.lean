/- Plain mathematics of rounding to 12 digits. No program in sight. -/
import Derived.Test.YtekbfommnmikbaaGreatDoorM1
namespace Go.Proofs.YtekbfommnmikbaaGreatDoor
set_option linter.unusedVariables false
set_option linter.unusedSimpArgs false

/-- The number of some digits, the greatest one first. -/
def vd : List Int → Int
  | [] => 0
  | d :: l => d * 10 ^ l.length + vd l
theorem vd_nil : vd [] = 0 := rfl
theorem vd_cons (d : Int) (l : List Int) : vd (d :: l) = d * 10 ^ l.length + vd l := rfl
theorem vd_append : ∀ (l m : List Int), vd (l ++ m) = vd l * 10 ^ m.length + vd m
  | [], m => by simp [vd]
  | d :: l, m => by
    rw [List.cons_append, vd_cons, vd_cons, vd_append l m, List.length_append, Int.pow_add]
    grind
theorem vd_snoc (l : List Int) (d : Int) : vd (l ++ [d]) = 10 * vd l + d := by
  rw [vd_append]; simp [vd]; omega
theorem vd_zeros (k : Nat) : vd (List.replicate k 0) = 0 := by
  induction k with
  | zero => rfl
  | succ k ih => rw [List.replicate_succ, vd_cons, ih]; omega
theorem vd_nonneg {l : List Int} (h : InR 10 l) : 0 ≤ vd l := by
  induction l with
  | nil => exact Int.le_refl _
  | cons d l ih =>
    have h1 := (h d (List.mem_cons_self ..)).1
    have h2 := ih h.tail
    have h3 : (0 : Int) ≤ 10 ^ l.length := Int.le_of_lt (Int.pow_pos (by omega))
    have := Int.mul_nonneg h1 h3
    rw [vd_cons]; omega
theorem vd_lt {l : List Int} (h : InR 10 l) : vd l < 10 ^ l.length := by
  induction l with
  | nil => show (0 : Int) < 1; omega
  | cons d l ih =>
    have h1 := (h d (List.mem_cons_self ..)).2
    have h2 := ih h.tail
    rw [vd_cons, List.length_cons, Int.pow_succ]
    have h3 : (0 : Int) < 10 ^ l.length := Int.pow_pos (by omega)
    have h4 : d ≤ 9 := by have : d < 10 := h1; omega
    have := Int.mul_le_mul_of_nonneg_right h4 (Int.le_of_lt h3)
    omega
theorem vd_rev (l : List Int) : vd l.reverse = val 10 l := by
  induction l with
  | nil => rfl
  | cons d l ih => rw [List.reverse_cons, vd_snoc, ih, val_cons]; omega
theorem vd_dg (n : Nat) : vd (dg 10 n).reverse = (n : Int) := by rw [vd_rev, val_dg (by decide)]
theorem inR_reverse {l : List Int} (h : InR 10 l) : InR 10 l.reverse := fun x hx => h x (List.mem_reverse.1 hx)
theorem vd_nat {l : List Int} (h : InR 10 l) : ((vd l).toNat : Int) = vd l := Int.toNat_of_nonneg (vd_nonneg h)

/-- How many digits. -/
def nd (n : Nat) : Nat := (dg 10 n).length
theorem nd_zero : nd 0 = 0 := by unfold nd; rw [dg_zero]; rfl
theorem nd_le (n k : Nat) : nd n ≤ k ↔ n < 10 ^ k := dg_length_le (by decide) n k
theorem nd_gt (n k : Nat) : k < nd n ↔ 10 ^ k ≤ n := dg_length_lt (by decide) n k
theorem nd_eq {n k : Nat} (h1 : 10 ^ k ≤ n) (h2 : n < 10 ^ (k + 1)) : nd n = k + 1 := by
  have a := (nd_gt n k).2 h1
  have b := (nd_le n (k + 1)).2 h2
  omega
theorem nd_pos {n : Nat} (h : 0 < n) : 0 < nd n := (nd_gt n 0).2 (by rw [Nat.pow_zero]; exact h)
theorem nd_mono {m n : Nat} (h : m ≤ n) : nd m ≤ nd n := dg_length_mono (by decide) h
theorem lt_nd (n : Nat) : n < 10 ^ nd n := (nd_le n _).1 (Nat.le_refl _)
theorem nd_low {n : Nat} (h : 0 < n) : 10 ^ (nd n - 1) ≤ n := (nd_gt n _).1 (by have := nd_pos h; omega)
theorem nd_pow {n : Nat} (h : 0 < n) (k : Nat) : nd (n * 10 ^ k) = nd n + k := by
  have a := nd_pos h
  have b := nd_low h
  have c := lt_nd n
  obtain ⟨j, hj⟩ : ∃ j, nd n = j + 1 := ⟨nd n - 1, by omega⟩
  rw [hj] at b c ⊢
  rw [show j + 1 - 1 = j from rfl] at b
  rw [show j + 1 + k = (j + k) + 1 by omega]
  refine nd_eq ?_ ?_
  · rw [Nat.pow_add]; exact Nat.mul_le_mul_right _ b
  · rw [show j + k + 1 = (j + 1) + k by omega, Nat.pow_add]; exact Nat.mul_lt_mul_of_pos_right c (Nat.pow_pos (by decide))
theorem nd_vd {d : Int} {l : List Int} (h : InR 10 (d :: l)) (hd : d ≠ 0) : nd (vd (d :: l)).toNat = l.length + 1 := by
  have h1 := vd_nat h
  have h2 := vd_lt h
  have h0 := (h d (List.mem_cons_self ..)).1
  have h3 := vd_nonneg h.tail
  have hp : (0 : Int) < 10 ^ l.length := Int.pow_pos (by omega)
  have h4 := Int.mul_le_mul_of_nonneg_right (show (1 : Int) ≤ d by omega) (Int.le_of_lt hp)
  refine nd_eq ?_ ?_
  · have : ((10 ^ l.length : Nat) : Int) ≤ ((vd (d :: l)).toNat : Int) := by rw [h1, vd_cons, Int.natCast_pow]; simp only [Int.cast_ofNat_Int]; omega
    exact_mod_cast this
  · have : ((vd (d :: l)).toNat : Int) < ((10 ^ (l.length + 1) : Nat) : Int) := by rw [h1, Int.natCast_pow]; exact h2
    exact_mod_cast this

/-- 1 if what stands behind a point is more than a half, or a half behind an odd number. -/
def halfUp (r k q : Nat) : Nat := if 10 ^ k < 2 * r ∨ (2 * r = 10 ^ k ∧ q % 2 = 1) then 1 else 0
/-- n / 10^k, rounded. -/
def rdiv (n k : Nat) : Nat := n / 10 ^ k + halfUp (n % 10 ^ k) k (n / 10 ^ k)
/-- The 12 digits. -/
def man12 (n : Nat) : Nat := if nd n < 12 then n * 10 ^ (12 - nd n) else rdiv n (nd n - 12)
/-- A Man and an exponent, after the carry; none if too large. -/
def fit (m : Nat) (x : Int) : Option (Nat × Int) := if m = 1000000000000 then (if 88 < x + 1 then none else some (100000000000, x + 1)) else if 88 < x then none else some (m, x)
/-- The rounded value of n times 10^e. -/
def rnd (n : Nat) (e : Int) : Option (Nat × Int) :=
  if n = 0 ∨ (nd n : Int) + e < -100 then some (0, 0)
  else if (nd n : Int) + e = -100 then (if 10 ^ nd n < 2 * n then some (100000000000, -111) else some (0, 0))
  else fit (man12 n) ((nd n : Int) - 12 + e)

theorem half_mul (r k q j : Nat) : halfUp (r * 10 ^ j) (k + j) q = halfUp r k q := by
  unfold halfUp
  have hp : 0 < 10 ^ j := Nat.pow_pos (by decide)
  have e1 : (10 ^ (k + j) < 2 * (r * 10 ^ j)) ↔ 10 ^ k < 2 * r := by
    rw [Nat.pow_add, ← Nat.mul_assoc]; exact Nat.mul_lt_mul_right hp
  have e2 : (2 * (r * 10 ^ j) = 10 ^ (k + j)) ↔ 2 * r = 10 ^ k := by
    rw [Nat.pow_add, ← Nat.mul_assoc]; exact ⟨fun h => Nat.eq_of_mul_eq_mul_right hp h, fun h => by rw [h]⟩
  simp only [e1, e2]
theorem rdiv_mul (n k j : Nat) : rdiv (n * 10 ^ j) (k + j) = rdiv n k := by
  unfold rdiv
  have hp : 0 < 10 ^ j := Nat.pow_pos (by decide)
  have e1 : n * 10 ^ j / 10 ^ (k + j) = n / 10 ^ k := by rw [Nat.pow_add]; exact Nat.mul_div_mul_right _ _ hp
  have e2 : n * 10 ^ j % 10 ^ (k + j) = n % 10 ^ k * 10 ^ j := by rw [Nat.pow_add]; exact Nat.mul_mod_mul_right _ _ _
  rw [e1, e2, half_mul]
theorem rdiv_zero (n : Nat) : rdiv n 0 = n := by unfold rdiv halfUp; simp [Nat.mod_one]
theorem man12_mul {n : Nat} (h : 0 < n) (j : Nat) : man12 (n * 10 ^ j) = man12 n := by
  unfold man12
  rw [nd_pow h]
  by_cases h1 : nd n + j < 12
  · rw [if_pos h1, if_pos (by omega), Nat.mul_assoc, ← Nat.pow_add]; congr 2; omega
  · rw [if_neg h1]
    by_cases h2 : nd n < 12
    · rw [if_pos h2]
      have e : n * 10 ^ j = n * 10 ^ (12 - nd n) * 10 ^ (nd n + j - 12) := by rw [Nat.mul_assoc, ← Nat.pow_add]; congr 2; omega
      have e2 := rdiv_mul (n * 10 ^ (12 - nd n)) 0 (nd n + j - 12)
      rw [Nat.zero_add] at e2
      rw [e, e2, rdiv_zero]
    · rw [if_neg h2, show nd n + j - 12 = (nd n - 12) + j by omega, rdiv_mul]
/-- Zeros at the end change nothing. -/
theorem rnd_mul (n j : Nat) (e : Int) : rnd (n * 10 ^ j) (e - j) = rnd n e := by
  by_cases h0 : n = 0
  · subst h0; simp [rnd]
  have h : 0 < n := by omega
  have hp : 0 < 10 ^ j := Nat.pow_pos (by decide)
  have hm : 0 < n * 10 ^ j := Nat.mul_pos h hp
  unfold rnd
  rw [nd_pow h, man12_mul h]
  have e1 : ((nd n + j : Nat) : Int) + (e - j) = (nd n : Int) + e := by omega
  have e2 : ((nd n + j : Nat) : Int) - 12 + (e - j) = (nd n : Int) - 12 + e := by omega
  have e3 : (10 ^ (nd n + j) < 2 * (n * 10 ^ j)) ↔ 10 ^ nd n < 2 * n := by
    rw [Nat.pow_add, ← Nat.mul_assoc]; exact Nat.mul_lt_mul_right hp
  have e4 : (n * 10 ^ j = 0) ↔ n = 0 := by omega
  simp only [e1, e2, e3, e4]

/-- What near makes of the digits behind a point. -/
def nearV (l : List Int) (q : Nat) : Nat := halfUp (vd l).toNat l.length q
theorem near_nil (q : Nat) : nearV [] q = 0 := by unfold nearV halfUp; simp [vd]
theorem near_less {d : Int} {l : List Int} (h : InR 10 (d :: l)) (hd : d < 5) (q : Nat) : nearV (d :: l) q = 0 := by
  unfold nearV halfUp
  have h1 := vd_nat h
  have h2 := vd_lt h.tail
  have hp : (0 : Int) < 10 ^ l.length := Int.pow_pos (by omega)
  have h4 := Int.mul_le_mul_of_nonneg_right (show d ≤ 4 by omega) (Int.le_of_lt hp)
  have h5 : 2 * ((vd (d :: l)).toNat : Int) < ((10 ^ (l.length + 1) : Nat) : Int) := by rw [h1, vd_cons, Int.natCast_pow, Int.pow_succ]; simp only [Int.cast_ofNat_Int]; omega
  have h6 : 2 * (vd (d :: l)).toNat < 10 ^ (l.length + 1) := by exact_mod_cast h5
  rw [List.length_cons]
  rw [if_neg (by omega)]
theorem near_more {d : Int} {l : List Int} (h : InR 10 (d :: l)) (hd : 5 < d ∨ (5 ≤ d ∧ 0 < vd l)) (q : Nat) : nearV (d :: l) q = 1 := by
  unfold nearV halfUp
  have h1 := vd_nat h
  have h2 := vd_nonneg h.tail
  have hp : (0 : Int) < 10 ^ l.length := Int.pow_pos (by omega)
  have h5 : ((10 ^ (l.length + 1) : Nat) : Int) < 2 * ((vd (d :: l)).toNat : Int) := by
    rw [h1, vd_cons, Int.natCast_pow, Int.pow_succ]; simp only [Int.cast_ofNat_Int]
    rcases hd with hd | ⟨hd, hv⟩
    · have h4 := Int.mul_le_mul_of_nonneg_right (show (6 : Int) ≤ d by omega) (Int.le_of_lt hp); omega
    · have h4 := Int.mul_le_mul_of_nonneg_right hd (Int.le_of_lt hp); omega
  have h6 : 10 ^ (l.length + 1) < 2 * (vd (d :: l)).toNat := by exact_mod_cast h5
  rw [List.length_cons, if_pos (.inl h6)]
theorem near_half {l : List Int} (hv : vd l = 0) (q : Nat) : nearV (5 :: l) q = if q % 2 = 1 then 1 else 0 := by
  unfold nearV halfUp
  have h5 : 2 * vd (5 :: l) = 10 ^ (l.length + 1) := by rw [vd_cons, hv, Int.pow_succ]; omega
  have hp : (0 : Int) < 10 ^ (l.length + 1) := Int.pow_pos (by omega)
  have h6 : 2 * ((vd (5 :: l)).toNat : Int) = ((10 ^ (l.length + 1) : Nat) : Int) := by rw [Int.toNat_of_nonneg (by omega), Int.natCast_pow]; exact h5
  have h7 : 2 * (vd (5 :: l)).toNat = 10 ^ (l.length + 1) := by exact_mod_cast h6
  rw [List.length_cons, h7]
  simp
theorem vd_some {l : List Int} (h : InR 10 l) : 0 < vd l ↔ ∃ x ∈ l, 0 < x := by
  induction l with
  | nil => simp [vd]
  | cons d l ih =>
    have hp : (0 : Int) < 10 ^ l.length := Int.pow_pos (by omega)
    have h0 := (h d (List.mem_cons_self ..)).1
    have h2 := vd_nonneg h.tail
    have h3 := Int.mul_nonneg h0 (Int.le_of_lt hp)
    rw [vd_cons]
    constructor
    · intro hv
      by_cases hd : 0 < d
      · exact ⟨d, List.mem_cons_self .., hd⟩
      · obtain rfl : d = 0 := by omega
        obtain ⟨x, hx, hx0⟩ := (ih h.tail).1 (by omega)
        exact ⟨x, List.mem_cons_of_mem _ hx, hx0⟩
    · rintro ⟨x, hx, hx0⟩
      rcases List.mem_cons.1 hx with rfl | hx
      · have := Int.mul_pos hx0 hp; omega
      · have := (ih h.tail).2 ⟨x, hx, hx0⟩; omega

/-- The digits cut behind the twelfth. -/
theorem rdiv_cut {l : List Int} (h : InR 10 l) (j : Nat) (hj : j ≤ l.length) :
    (vd (l.take j)).toNat + nearV (l.drop j) (vd (l.take j)).toNat = rdiv (vd l).toNat (l.length - j) := by
  have ht := vd_nat (h.take j)
  have hd := vd_nat (h.drop j)
  have hl := vd_nat h
  have hlt := vd_lt (h.drop j)
  have e : vd l = vd (l.take j) * 10 ^ (l.drop j).length + vd (l.drop j) := by
    have := vd_append (l.take j) (l.drop j)
    rw [List.take_append_drop] at this
    exact this
  obtain ⟨T, hT⟩ : ∃ T, (vd (l.take j)).toNat = T := ⟨_, rfl⟩
  obtain ⟨D, hD⟩ : ∃ D, (vd (l.drop j)).toNat = D := ⟨_, rfl⟩
  obtain ⟨N, hN⟩ : ∃ N, (vd l).toNat = N := ⟨_, rfl⟩
  rw [hT] at ht; rw [hD] at hd; rw [hN] at hl
  rw [← ht, ← hd, ← hl] at e
  rw [← hd] at hlt
  have hk : (l.drop j).length = l.length - j := by simp
  rw [hk] at e hlt
  have e' : N = T * 10 ^ (l.length - j) + D := by exact_mod_cast e
  have hlt' : D < 10 ^ (l.length - j) := by exact_mod_cast hlt
  unfold nearV rdiv
  rw [hT, hN, hD, hk]
  have hp : 0 < 10 ^ (l.length - j) := Nat.pow_pos (by decide)
  have q1 : N / 10 ^ (l.length - j) = T := by rw [e', Nat.mul_comm, Nat.mul_add_div hp, Nat.div_eq_of_lt hlt']; rfl
  have q2 : N % 10 ^ (l.length - j) = D := by rw [e', Nat.mul_comm, Nat.mul_add_mod, Nat.mod_eq_of_lt hlt']
  rw [q1, q2]

/-- Without the zeros ahead. -/
def strip : List Int → List Int
  | [] => []
  | d :: l => if d = 0 then strip l else d :: l
theorem strip_vd (l : List Int) : vd (strip l) = vd l := by
  induction l with
  | nil => rfl
  | cons d l ih =>
    unfold strip
    split
    · rename_i h; rw [ih, vd_cons, h]; omega
    · rfl
theorem strip_nil {l : List Int} (h : InR 10 l) : strip l = [] ↔ vd l = 0 := by
  induction l with
  | nil => simp [strip, vd]
  | cons d l ih =>
    unfold strip
    split
    · rename_i h0; rw [ih h.tail, vd_cons, h0]; omega
    · rename_i h0
      have h1 := (h d (List.mem_cons_self ..)).1
      have h2 := vd_nonneg h.tail
      have hp : (0 : Int) < 10 ^ l.length := Int.pow_pos (by omega)
      have h3 := Int.mul_pos (show 0 < d by omega) hp
      rw [vd_cons]
      constructor
      · intro e; cases e
      · intro e; omega
theorem strip_inR {l : List Int} (h : InR 10 l) : InR 10 (strip l) := by
  induction l with
  | nil => exact h
  | cons d l ih =>
    unfold strip
    split
    · exact ih h.tail
    · exact h
theorem strip_head {l : List Int} {d : Int} {m : List Int} (h : strip l = d :: m) : d ≠ 0 := by
  induction l with
  | nil => cases h
  | cons c l ih =>
    unfold strip at h
    split at h
    · exact ih h
    · rename_i h0; cases h; exact h0
theorem strip_len (l : List Int) : (strip l).length ≤ l.length := by
  induction l with
  | nil => exact Nat.le_refl _
  | cons d l ih =>
    unfold strip
    split
    · rw [List.length_cons]; omega
    · exact Nat.le_refl _
/-- The 12 digits and what near adds. -/
theorem man12_of {d : Int} {l p : List Int} (h : InR 10 (d :: l)) (hd : d ≠ 0) (hp : p = (d :: l) ++ List.replicate (12 - (l.length + 1)) 0) :
    InR 10 p ∧ 12 ≤ p.length ∧ (vd (p.take 12)).toNat + nearV (p.drop 12) (vd (p.take 12)).toNat = man12 (vd (d :: l)).toNat := by
  have hn := nd_vd h hd
  have hi : InR 10 p := by rw [hp]; exact h.append (InR.replicate (by decide) _)
  have hl : p.length = l.length + 1 + (12 - (l.length + 1)) := by rw [hp, List.length_append, List.length_replicate, List.length_cons]
  refine ⟨hi, by omega, ?_⟩
  have hv : (vd p).toNat = (vd (d :: l)).toNat * 10 ^ (12 - (l.length + 1)) := by
    have h1 := vd_nat hi
    have h2 := vd_nat h
    have e : vd p = vd (d :: l) * 10 ^ (12 - (l.length + 1)) := by rw [hp, vd_append, vd_zeros, List.length_replicate]; omega
    rw [← h1, ← h2] at e
    exact_mod_cast e
  rw [rdiv_cut hi 12 (by omega), hv, hl]
  unfold man12
  rw [hn]
  by_cases hc : l.length + 1 < 12
  · rw [if_pos hc, show l.length + 1 + (12 - (l.length + 1)) - 12 = 0 by omega, rdiv_zero]
  · rw [if_neg hc, show 12 - (l.length + 1) = 0 by omega, Nat.pow_zero, Nat.mul_one]

theorem half_le (r k q : Nat) : halfUp r k q ≤ 1 := by unfold halfUp; split <;> omega
theorem man12_rng {n : Nat} (h : 0 < n) : 100000000000 ≤ man12 n ∧ man12 n ≤ 1000000000000 := by
  have a := nd_low h
  have b := lt_nd n
  have hp := nd_pos h
  unfold man12
  split
  · rename_i hc
    obtain ⟨j, hj⟩ : ∃ j, nd n = j + 1 := ⟨nd n - 1, by omega⟩
    rw [hj] at a b hc ⊢
    have e1 : 10 ^ j * 10 ^ (12 - (j + 1)) = 100000000000 := by rw [← Nat.pow_add, show j + (12 - (j + 1)) = 11 by omega]
    have e2 : 10 ^ (j + 1) * 10 ^ (12 - (j + 1)) = 1000000000000 := by rw [← Nat.pow_add, show j + 1 + (12 - (j + 1)) = 12 by omega]
    have h1 := Nat.mul_le_mul_right (10 ^ (12 - (j + 1))) a
    have h2 := Nat.mul_le_mul_right (10 ^ (12 - (j + 1))) (Nat.le_of_lt b)
    rw [show j + 1 - 1 = j from rfl, e1] at h1
    rw [e2] at h2
    exact ⟨h1, h2⟩
  · rename_i hc
    obtain ⟨j, hj⟩ : ∃ j, nd n = j + 12 := ⟨nd n - 12, by omega⟩
    rw [hj] at a b ⊢
    rw [show j + 12 - 12 = j by omega]
    unfold rdiv
    have hh := half_le (n % 10 ^ j) j (n / 10 ^ j)
    have hq1 : 100000000000 ≤ n / 10 ^ j := by
      rw [Nat.le_div_iff_mul_le (Nat.pow_pos (by decide))]
      rw [show j + 12 - 1 = 11 + j by omega, Nat.pow_add] at a
      exact a
    have hq2 : n / 10 ^ j < 1000000000000 := by
      rw [Nat.div_lt_iff_lt_mul (Nat.pow_pos (by decide))]
      rw [show j + 12 = 12 + j by omega, Nat.pow_add] at b
      exact b
    omega
/-- A real's parts: 0, or 12 digits and an exponent that is not too great. -/
def RV (m : Nat) (x : Int) : Prop := (m = 0 ∧ x = 0) ∨ (100000000000 ≤ m ∧ m < 1000000000000 ∧ -111 ≤ x ∧ x ≤ 88)
theorem rnd_valid {n : Nat} {e : Int} {m : Nat} {x : Int} (h : rnd n e = some (m, x)) : RV m x := by
  unfold rnd at h
  split at h
  · cases h; exact .inl ⟨rfl, rfl⟩
  · rename_i h1
    split at h
    · split at h
      · cases h; exact .inr ⟨by omega, by omega, by omega, by omega⟩
      · cases h; exact .inl ⟨rfl, rfl⟩
    · rename_i h2
      have := man12_rng (n := n) (by omega)
      unfold fit at h
      split at h
      · split at h
        · cases h
        · cases h; exact .inr ⟨by omega, by omega, by omega, by omega⟩
      · split at h
        · cases h
        · cases h; exact .inr ⟨by omega, by omega, by omega, by omega⟩
theorem rnd_zero (e : Int) : rnd 0 e = some (0, 0) := by unfold rnd; rw [if_pos (.inl rfl)]
theorem nd_man {m : Nat} (h1 : 100000000000 ≤ m) (h2 : m < 1000000000000) : nd m = 12 := nd_eq (k := 11) h1 h2
/-- 12 digits are rounded already. -/
theorem rnd_man {m : Nat} (h1 : 100000000000 ≤ m) (h2 : m < 1000000000000) (e : Int) :
    rnd m e = if e < -112 then some (0, 0) else if e = -112 then (if 500000000000 < m then some (100000000000, -111) else some (0, 0)) else if 88 < e then none else some (m, e) := by
  have hn := nd_man h1 h2
  have hm : man12 m = m := by unfold man12; rw [hn, if_neg (by omega), rdiv_zero]
  unfold rnd fit
  rw [hn, hm]
  by_cases c1 : e < -112
  · rw [if_pos (by omega), if_pos c1]
  · rw [if_neg (by omega), if_neg c1]
    by_cases c2 : e = -112
    · rw [if_pos (by omega), if_pos c2]
      by_cases c3 : 500000000000 < m
      · rw [if_pos c3, if_pos (by show 1000000000000 < _; omega)]
      · rw [if_neg c3, if_neg (by show ¬ 1000000000000 < _; omega)]
    · rw [if_neg (by omega), if_neg c2, if_neg (by omega), show ((12 : Nat) : Int) - 12 + e = e by omega]
theorem rnd_self {m : Nat} {x : Int} (h : RV m x) : rnd m x = some (m, x) := by
  rcases h with ⟨rfl, rfl⟩ | ⟨h1, h2, h3, h4⟩
  · exact rnd_zero _
  · rw [rnd_man h1 h2, if_neg (by omega), if_neg (by omega), if_neg (by omega)]

end Go.Proofs.YtekbfommnmikbaaGreatDoor
