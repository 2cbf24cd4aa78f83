/- Plain mathematics of the digits of a root. No program in sight. -/
import Derived.Test.YtekbfommnmikbaaGreatDoorAmt
namespace Go.Proofs.YtekbfommnmikbaaGreatDoor
set_option linter.unusedVariables false
set_option linter.unusedSimpArgs false

/-- The greatest digit, at most d, that fits. -/
def down (R S : Nat) : Nat → Nat
  | 0 => 0
  | d + 1 => if (20 * R + (d + 1)) * (d + 1) ≤ S then d + 1 else down R S d
theorem down_le (R S : Nat) : ∀ d, down R S d ≤ d
  | 0 => Nat.le_refl _
  | d + 1 => by unfold down; split; exact Nat.le_refl _; exact Nat.le_succ_of_le (down_le R S d)
theorem down_fits (R S : Nat) : ∀ d, (20 * R + down R S d) * down R S d ≤ S
  | 0 => by simp [down]
  | d + 1 => by unfold down; split; assumption; exact down_fits R S d
theorem down_top (R S : Nat) : ∀ d, down R S d = d ∨ S < (20 * R + (down R S d + 1)) * (down R S d + 1)
  | 0 => .inl rfl
  | d + 1 => by
    unfold down
    split
    · exact .inl rfl
    · rename_i h
      rcases down_top R S d with h1 | h1
      · rw [h1]; exact .inr (by omega)
      · exact .inr h1
theorem down_step {R S d : Nat} (h : ¬ (20 * R + (d + 1)) * (d + 1) ≤ S) : down R S (d + 1) = down R S d := by rw [down, if_neg h]
theorem down_stop {R S d : Nat} (h : (20 * R + d) * d ≤ S) : down R S d = d := by
  cases d with
  | zero => rfl
  | succ d => rw [down, if_pos h]

/-- The k-th pair of digits; zeros behind the last one. -/
def pairAt (ds : List Int) (k : Nat) : Nat := if 2 * k < ds.length then (10 * ds[2 * k]?.getD 0 + ds[2 * k + 1]?.getD 0).toNat else 0
/-- The root of the first k pairs, and what is left. -/
def rs (ds : List Int) : Nat → Nat × Nat
  | 0 => (0, 0)
  | k + 1 => (10 * (rs ds k).1 + down (rs ds k).1 ((rs ds k).2 * 100 + pairAt ds k) 9, (rs ds k).2 * 100 + pairAt ds k - (20 * (rs ds k).1 + down (rs ds k).1 ((rs ds k).2 * 100 + pairAt ds k) 9) * down (rs ds k).1 ((rs ds k).2 * 100 + pairAt ds k) 9)
/-- The number of the first k pairs. -/
def pairs (ds : List Int) : Nat → Nat
  | 0 => 0
  | k + 1 => pairs ds k * 100 + pairAt ds k
theorem pairAt_int {ds : List Int} (hi : InR 10 ds) {k : Nat} (h : 2 * k < ds.length) : ((pairAt ds k : Nat) : Int) = 10 * ds[2 * k]?.getD 0 + ds[2 * k + 1]?.getD 0 := by
  have a := hi.at_ (by decide) (2 * k); have b := hi.at_ (by decide) (2 * k + 1)
  rw [List.getD_eq_getElem?_getD] at a b
  have a0 := a.1; have b0 := b.1
  rw [pairAt, if_pos h]
  exact Int.toNat_of_nonneg (by omega)
theorem pairAt_lt {ds : List Int} (hi : InR 10 ds) (k : Nat) : pairAt ds k < 100 := by
  by_cases h : 2 * k < ds.length
  · have e := pairAt_int hi h
    have a := hi.at_ (by decide) (2 * k); have b := hi.at_ (by decide) (2 * k + 1)
    rw [List.getD_eq_getElem?_getD] at a b
    have a1 : ds[2 * k]?.getD 0 < 10 := a.2
    have b1 : ds[2 * k + 1]?.getD 0 < 10 := b.2
    omega
  · rw [pairAt, if_neg h]; omega
theorem rs_root {ds : List Int} (hi : InR 10 ds) : ∀ k, RootAt (pairs ds k) (rs ds k).1 (rs ds k).2
  | 0 => rootAt_zero
  | k + 1 => by
    have h := rs_root hi k
    exact rootAt_step h (pairAt_lt hi k) (down_le _ _ _) (down_fits _ _ _) (down_top _ _ _)
theorem pairs_lt {ds : List Int} (hi : InR 10 ds) : ∀ k, pairs ds k < 100 ^ k
  | 0 => by simp [pairs]
  | k + 1 => by
    have h := pairs_lt hi k
    have h2 := pairAt_lt hi k
    rw [pairs, Nat.pow_succ]
    omega
theorem rs_lt {ds : List Int} (hi : InR 10 ds) (k : Nat) : (rs ds k).1 < 10 ^ k := by
  have h := (rootAt_le (rs_root hi k)).1
  have h2 := pairs_lt hi k
  have e : (100 : Nat) ^ k = 10 ^ k * 10 ^ k := by rw [← Nat.mul_pow]
  rw [e] at h2
  rcases Nat.lt_or_ge (rs ds k).1 (10 ^ k) with h3 | h3
  · exact h3
  · have := Nat.mul_le_mul h3 h3
    omega
/-- The k-th digit of the root, and whether something is left behind it. -/
def ritem (ds : List Int) (k : Nat) : Int × Bool := ((down (rs ds k).1 ((rs ds k).2 * 100 + pairAt ds k) 9 : Nat), decide ((((rs ds (k + 1)).2 : Nat) : Int) > 0) || decide ((2 * k + 2 : Int) < (ds.length : Int)))
theorem ritem_dig (ds : List Int) (k : Nat) : 0 ≤ (ritem ds k).1 ∧ (ritem ds k).1 < 10 := by
  have := down_le (rs ds k).1 ((rs ds k).2 * 100 + pairAt ds k) 9
  unfold ritem
  simp only []
  omega
/-- The number of the first digits is the root. -/
theorem ritem_vd {ds : List Int} : ∀ k, vd ((List.range k).map fun i => (ritem ds i).1) = ((rs ds k).1 : Int)
  | 0 => rfl
  | k + 1 => by
    rw [List.range_succ, List.map_append, List.map_cons, List.map_nil, vd_snoc, ritem_vd k]
    show 10 * ((rs ds k).1 : Int) + ((down (rs ds k).1 ((rs ds k).2 * 100 + pairAt ds k) 9 : Nat) : Int) = _
    rw [rs]
    omega
end Go.Proofs.YtekbfommnmikbaaGreatDoor
