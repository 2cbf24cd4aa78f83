/- Texts of this claim, merged: R6, SpB, Inv, RegV, RegP, SpC, SpF, Ord, Mono, SpD, SpE, Sticky, RootP, MonoB, RootM, SpH, FromN, FloorR, WholesL, OrderL. -/
import Derived.Test.YtekbfommnmikbaaGreatDoorO6
import Derived.Deep.DrawnRows
import Derived.RegionTactic
import Derived.Deep.RegionLawGrows
import Derived.Laws.IdiomStrings
/- The reference of layer 1: texts, division, roots. -/
namespace Go.Proofs.YtekbfommnmikbaaGreatDoor
set_option linter.unusedVariables false
set_option linter.unusedSimpArgs false
open Go.RowKit Go.Shelf
attribute [local go_sem ↓] Go.wp_at_zero Go.wp_at_succ

end Go.Proofs.YtekbfommnmikbaaGreatDoor

namespace Go.Proofs.YtekbfommnmikbaaGreatDoor
set_option linter.unusedVariables false
set_option linter.unusedSimpArgs false
open Go.RowKit Go.Shelf

end Go.Proofs.YtekbfommnmikbaaGreatDoor

namespace Go.Proofs.YtekbfommnmikbaaGreatDoor
set_option linter.unusedVariables false
set_option linter.unusedSimpArgs false
open Go.RowKit Go.Shelf
attribute [local go_sem] max2_int min2_int max_two min_two

end Go.Proofs.YtekbfommnmikbaaGreatDoor

namespace Go.Proofs.YtekbfommnmikbaaGreatDoor
set_option linter.unusedVariables false
set_option linter.unusedSimpArgs false
open Go.RowKit

end Go.Proofs.YtekbfommnmikbaaGreatDoor

namespace Go.Proofs.YtekbfommnmikbaaGreatDoor
set_option linter.unusedVariables false
set_option linter.unusedSimpArgs false
open Go.RowKit Go.Shelf

/-- A pair of the reference's integers. -/
def Pr (w : World) (v : Value) (x y : Int) : Prop := ∃ p q b1 b2, v = .agg #[p, .bool b1, q, .bool b2] ∧ Ri w (.agg #[p, .bool b1]) x ∧ Ri w (.agg #[q, .bool b2]) y
theorem Pr.form {w : World} {v : Value} {x y : Int} (h : Pr w v x y) : ∃ A n c b A' n' c' b', v = .agg #[.slice A n c, .bool b, .slice A' n' c', .bool b'] := by
  obtain ⟨p, q, b1, b2, rfl, hp, hq⟩ := h
  obtain ⟨A, n, c, b, e⟩ := hp.form
  obtain ⟨A', n', c', b', e'⟩ := hq.form
  simp at e e'
  exact ⟨A, n, c, b1, A', n', c', b2, by rw [e.1, e'.1]⟩
theorem Pr.parts {w : World} {p q : Value} {b1 b2 : Bool} {x y : Int} (h : Pr w (.agg #[p, .bool b1, q, .bool b2]) x y) : Ri w (.agg #[p, .bool b1]) x ∧ Ri w (.agg #[q, .bool b2]) y := by
  obtain ⟨p', q', c1, c2, e, hp, hq⟩ := h
  simp at e
  obtain ⟨rfl, rfl, rfl, rfl⟩ := e
  exact ⟨hp, hq⟩
theorem Pr.below {w w' : World} {v : Value} {x y : Int} (h : Pr w v x y) (hb : Below w.heap.size w w') : Pr w' v x y := by
  obtain ⟨p, q, b1, b2, rfl, hp, hq⟩ := h
  exact ⟨p, q, b1, b2, rfl, hp.below hb, hq.below hb⟩
end Go.Proofs.YtekbfommnmikbaaGreatDoor

namespace Go.Proofs.YtekbfommnmikbaaGreatDoor
set_option linter.unusedVariables false
set_option linter.unusedSimpArgs false
open Go.RowKit Go.Shelf
attribute [local go_sem ↓] Go.wp_at_zero Go.wp_at_succ

/-- All that lay in V lies there still, but for block g. -/
structure BX (V : World) (g : Nat) (w : World) : Prop where
  size_ : V.heap.size ≤ w.heap.size
  same : ∀ b, b < V.heap.size → b ≠ g → w.heap[b]? = V.heap[b]?
theorem BX.refl (V : World) (g : Nat) : BX V g V := ⟨Nat.le_refl _, fun _ _ _ => rfl⟩
theorem BX.call {V w w' : World} {g : Nat} (h : BX V g w) (hb : Below w.heap.size w w') : BX V g w' :=
  ⟨Nat.le_trans h.size_ hb.size, fun b h1 h2 => (hb.block b (Nat.lt_of_lt_of_le h1 h.size_)).trans (h.same b h1 h2)⟩
theorem BX.drew {V w : World} {g : Nat} (h : BX V g w) : BX V g w.drew := h.call (Below.refl _ _).drew
theorem BX.alloc {V w : World} {g : Nat} (h : BX V g w) (o : Obj) : BX V g (w.alloc o) := h.call ((Below.refl _ _).alloc (Nat.le_refl _) o)
theorem BX.set {V w : World} {g : Nat} (h : BX V g w) (i : Nat) (v : Value) : BX V g (w.setCell ⟨g, i, none⟩ v) :=
  ⟨by simpa using h.size_, fun b h1 h2 => (Below.heap_setCell _ _ _ _ h2).trans (h.same b h1 h2)⟩
/-- A box of four cells, none of them a number. -/
def Bx4 (w : World) (g : Nat) : Prop := ∃ t x0 x1 x2 x3, w.heap[g]? = some (.cells #[x0, x1, x2, x3] t (0, 0)) ∧ NoI x0 ∧ NoI x1 ∧ NoI x2 ∧ NoI x3
theorem Bx4.call {w w' : World} {g : Nat} (h : Bx4 w g) (hb : Below w.heap.size w w') : Bx4 w' g := by
  obtain ⟨t, x0, x1, x2, x3, h, hs⟩ := h
  exact ⟨t, x0, x1, x2, x3, heap_below h hb, hs⟩
theorem Bx4.drew {w : World} {g : Nat} (h : Bx4 w g) : Bx4 w.drew g := h.call (Below.refl _ _).drew
theorem Bx4.alloc {w : World} {g : Nat} (h : Bx4 w g) (o : Obj) : Bx4 (w.alloc o) g := h.call ((Below.refl _ _).alloc (Nat.le_refl _) o)
theorem Bx4.lt {w : World} {g : Nat} (h : Bx4 w g) : g < w.heap.size := by
  obtain ⟨t, x0, x1, x2, x3, h, hs⟩ := h
  exact (Array.getElem?_eq_some_iff.1 h).1
theorem Bx4.free {w : World} {g : Nat} (h : Bx4 w g) (i : Nat) : w.frozen? ⟨g, i, none⟩ = false := by
  obtain ⟨t, x0, x1, x2, x3, h, hs⟩ := h
  exact free_of_heap h i
theorem Bx4.cells {w : World} {g : Nat} (h : Bx4 w g) : ∃ x0 x1 x2 x3, w.cell? ⟨g, 0, none⟩ = some x0 ∧ w.cell? ⟨g, 1, none⟩ = some x1 ∧ w.cell? ⟨g, 2, none⟩ = some x2 ∧ w.cell? ⟨g, 3, none⟩ = some x3 := by
  obtain ⟨t, x0, x1, x2, x3, h, hs⟩ := h
  exact ⟨x0, x1, x2, x3, cell_of_heap h 0, cell_of_heap h 1, cell_of_heap h 2, cell_of_heap h 3⟩
theorem Bx4.set {w : World} {g : Nat} (h : Bx4 w g) (i : Nat) {v : Value} (hv : NoI v) : Bx4 (w.setCell ⟨g, i, none⟩ v) g := by
  obtain ⟨t, x0, x1, x2, x3, h, n0, n1, n2, n3⟩ := h
  have h1 := box_put h i v
  match i with
  | 0 => exact ⟨t, v, x1, x2, x3, by simpa using h1, hv, n1, n2, n3⟩
  | 1 => exact ⟨t, x0, v, x2, x3, by simpa using h1, n0, hv, n2, n3⟩
  | 2 => exact ⟨t, x0, x1, v, x3, by simpa using h1, n0, n1, hv, n3⟩
  | 3 => exact ⟨t, x0, x1, x2, v, by simpa using h1, n0, n1, n2, hv⟩
  | i + 4 => exact ⟨t, x0, x1, x2, x3, by rw [h1]; simp [Array.setIfInBounds], n0, n1, n2, n3⟩
end Go.Proofs.YtekbfommnmikbaaGreatDoor

namespace Go.Proofs.YtekbfommnmikbaaGreatDoor
set_option linter.unusedVariables false
set_option linter.unusedSimpArgs false
open Go.RowKit Go.Shelf

end Go.Proofs.YtekbfommnmikbaaGreatDoor

namespace Go.Proofs.YtekbfommnmikbaaGreatDoor
set_option linter.unusedVariables false
set_option linter.unusedSimpArgs false
open Go.RowKit Go.Shelf

end Go.Proofs.YtekbfommnmikbaaGreatDoor
/- The reference of layer 2: Valid; the statements' helpers. -/
namespace Go.Proofs.YtekbfommnmikbaaGreatDoor
set_option linter.unusedVariables false
set_option linter.unusedSimpArgs false
open Go.RowKit Go.Shelf Go.Proofs
attribute [local go_sem ↓] Go.wp_at_zero Go.wp_at_succ

end Go.Proofs.YtekbfommnmikbaaGreatDoor
/- A region that draws its order, by what holds whatever has come up: one look at each operation. -/
namespace Go.Proofs.YtekbfommnmikbaaGreatDoor
set_option linter.unusedVariables false
set_option linter.unusedSimpArgs false

section
variable {P : Program} {ops : Array Oper} {Q : Exit → Act → World → Prop}

end
end Go.Proofs.YtekbfommnmikbaaGreatDoor
/- A region that draws its order, whose operations have values that are known ahead, and leave what was there. -/
namespace Go.Proofs.YtekbfommnmikbaaGreatDoor
set_option linter.unusedVariables false
set_option linter.unusedSimpArgs false
open Go.RowKit

end Go.Proofs.YtekbfommnmikbaaGreatDoor
/- A region that draws its order, whose operations have values of which something is known, and leave what was there; at its end there may be a store. -/
namespace Go.Proofs.YtekbfommnmikbaaGreatDoor
set_option linter.unusedVariables false
set_option linter.unusedSimpArgs false
open Go.RowKit

end Go.Proofs.YtekbfommnmikbaaGreatDoor
/- The reference of layer 2: numbers; Of, zeros, at, Order. -/
namespace Go.Proofs.YtekbfommnmikbaaGreatDoor
set_option linter.unusedVariables false
set_option linter.unusedSimpArgs false
open Go.RowKit Go.Shelf Go.Proofs
attribute [local go_sem ↓] Go.wp_at_zero Go.wp_at_succ

/-- v is the number z times 10 to the power of e. -/
def Dc (w : World) (v : Value) (z e : Int) : Prop := ∃ A n c b, v = .agg #[.slice A n c, .bool b, .int .i64 e] ∧ Ri w (.agg #[.slice A n c, .bool b]) z
theorem Dc.below {w w' : World} {v : Value} {z e : Int} (h : Dc w v z e) (hb : Below w.heap.size w w') : Dc w' v z e := by
  obtain ⟨A, n, c, b, h1, h2⟩ := h
  exact ⟨A, n, c, b, h1, h2.below hb⟩
end Go.Proofs.YtekbfommnmikbaaGreatDoor
/- The reference of layer 2: at, Order, Plus, Times, Whole, FromNumber. -/
namespace Go.Proofs.YtekbfommnmikbaaGreatDoor
set_option linter.unusedVariables false
set_option linter.unusedSimpArgs false
open Go.RowKit Go.Shelf Go.Proofs
attribute [local go_sem ↓] Go.wp_at_zero Go.wp_at_succ
attribute [local go_sem] max2_int min2_int max_two min_two

theorem Dc.drew {w : World} {v : Value} {z e : Int} (h : Dc w v z e) : Dc w.drew v z e := h.below (Below.refl _ _).drew
theorem Dc.form {w : World} {v : Value} {z e : Int} (h : Dc w v z e) : ∃ A n c b, v = .agg #[.slice A n c, .bool b, .int .i64 e] := by
  obtain ⟨A, n, c, b, h1, h2⟩ := h
  exact ⟨A, n, c, b, h1⟩
end Go.Proofs.YtekbfommnmikbaaGreatDoor
/- Plain mathematics: rounding keeps the order. No program in sight. -/
namespace Go.Proofs.YtekbfommnmikbaaGreatDoor
set_option linter.unusedVariables false
set_option linter.unusedSimpArgs false

/-- The place of a magnitude among all. -/
def pl (m : Nat) (x : Int) : Int := if m = 0 then 0 else 1 + (x + 111) * 900000000000 + m - 100000000000
theorem pl_nonneg {m : Nat} {x : Int} (h : RV m x) : 0 ≤ pl m x := by
  unfold pl
  rcases h with ⟨rfl, rfl⟩ | ⟨h1, h2, h3, h4⟩
  · exact Int.le_refl _
  · rw [if_neg (by omega)]; omega
theorem pl_pos {m : Nat} {x : Int} (h1 : 100000000000 ≤ m) : pl m x = 1 + (x + 111) * 900000000000 + m - 100000000000 := by unfold pl; rw [if_neg (by omega)]
theorem fit_pl {m : Nat} {x : Int} {m' : Nat} {x' : Int} (h1 : 100000000000 ≤ m) (h : fit m x = some (m', x')) : pl m' x' = 1 + (x + 111) * 900000000000 + m - 100000000000 := by
  unfold fit at h
  split at h
  · split at h
    · cases h
    · cases h; rw [pl_pos (by omega)]; omega
  · split at h
    · cases h
    · cases h; rw [pl_pos h1]
theorem half_mono {r s k q : Nat} (h : r ≤ s) : halfUp r k q ≤ halfUp s k q := by
  unfold halfUp
  split
  · rename_i h1
    rw [if_pos]
    · exact Nat.le_refl _
    · rcases h1 with h1 | h1
      · exact .inl (by omega)
      · by_cases h2 : r = s
        · subst h2; exact .inr h1
        · exact .inl (by omega)
  · exact Nat.zero_le _
theorem rdiv_mono {m n : Nat} (h : m ≤ n) (k : Nat) : rdiv m k ≤ rdiv n k := by
  unfold rdiv
  have hq : m / 10 ^ k ≤ n / 10 ^ k := Nat.div_le_div_right h
  have h1 := half_le (m % 10 ^ k) k (m / 10 ^ k)
  by_cases e : m / 10 ^ k = n / 10 ^ k
  · rw [e]
    have a := Nat.div_add_mod m (10 ^ k)
    have b := Nat.div_add_mod n (10 ^ k)
    rw [e] at a
    have := half_mono (k := k) (q := n / 10 ^ k) (show m % 10 ^ k ≤ n % 10 ^ k by omega)
    omega
  · omega
theorem man12_mono {m n : Nat} (h : m ≤ n) (e : nd m = nd n) : man12 m ≤ man12 n := by
  unfold man12
  rw [e]
  split
  · exact Nat.mul_le_mul_right _ h
  · exact rdiv_mono h _
/-- The rounded values are in order. -/
theorem rnd_mono {n1 n2 : Nat} (h : n1 ≤ n2) (e : Int) {m2 : Nat} {x2 : Int} (h2 : rnd n2 e = some (m2, x2)) : ∃ m1 x1, rnd n1 e = some (m1, x1) ∧ pl m1 x1 ≤ pl m2 x2 := by
  have hv2 := pl_nonneg (rnd_valid h2)
  have hnd := nd_mono h
  by_cases c1 : n1 = 0 ∨ (nd n1 : Int) + e < -100
  · exact ⟨0, 0, by unfold rnd; rw [if_pos c1], hv2⟩
  have hn1 : 0 < n1 := by omega
  have hn2 : 0 < n2 := by omega
  have r2 := man12_rng hn2
  have r1 := man12_rng hn1
  have c2 : ¬ (n2 = 0 ∨ (nd n2 : Int) + e < -100) := by omega
  unfold rnd at h2 ⊢
  rw [if_neg c2] at h2
  rw [if_neg c1]
  by_cases c3 : (nd n1 : Int) + e = -100
  · rw [if_pos c3]
    by_cases c4 : 10 ^ nd n1 < 2 * n1
    · rw [if_pos c4]
      refine ⟨_, _, rfl, ?_⟩
      rw [pl_pos (by omega)]
      by_cases c5 : (nd n2 : Int) + e = -100
      · have e2 : nd n2 = nd n1 := by omega
        rw [if_pos c5, e2, if_pos (by omega)] at h2
        cases h2; rw [pl_pos (by omega)]; omega
      · rw [if_neg c5] at h2
        rw [fit_pl r2.1 h2]; omega
    · rw [if_neg c4]
      exact ⟨_, _, rfl, by have : pl 0 0 = 0 := rfl; omega⟩
  · rw [if_neg c3]
    have c5 : ¬ (nd n2 : Int) + e = -100 := by omega
    rw [if_neg c5] at h2
    have key : man12 n1 + (nd n1 : Int) * 900000000000 ≤ man12 n2 + (nd n2 : Int) * 900000000000 ∧ (nd n1 = nd n2 → man12 n1 ≤ man12 n2) := by
      by_cases e' : nd n1 = nd n2
      · have := man12_mono h e'; exact ⟨by rw [e']; omega, fun _ => this⟩
      · exact ⟨by omega, fun h => absurd h e'⟩
    have hs : ∃ p, fit (man12 n1) ((nd n1 : Int) - 12 + e) = some p := by
      unfold fit at h2 ⊢
      have k2 := key.2
      split
      · rename_i a1
        split
        · rename_i a2
          exfalso
          split at h2
          · split at h2
            · cases h2
            · omega
          · split at h2
            · cases h2
            · have : nd n1 = nd n2 := by omega
              have := k2 this; omega
        · exact ⟨_, rfl⟩
      · split
        · rename_i a2
          exfalso
          split at h2
          · split at h2
            · cases h2
            · omega
          · split at h2
            · cases h2
            · omega
        · exact ⟨_, rfl⟩
    obtain ⟨⟨m1, x1⟩, hp⟩ := hs
    refine ⟨m1, x1, hp, ?_⟩
    rw [fit_pl r1.1 hp, fit_pl r2.1 h2]
    have := key.1
    omega

end Go.Proofs.YtekbfommnmikbaaGreatDoor
/- Plain laws: rounded values with a sign, and the order of reals. -/
namespace Go.Proofs.YtekbfommnmikbaaGreatDoor
set_option linter.unusedVariables false
set_option linter.unusedSimpArgs false

/-- A magnitude and an exponent with a sign. -/
def sgo (s : Bool) : Option (Nat × Int) → Option (Int × Int)
  | some (m, x) => some (sgm s m, x)
  | none => none
/-- The rounded value of v times 10^e, with its sign. -/
def rndS (v e : Int) : Option (Int × Int) := sgo (decide (v < 0)) (rnd v.natAbs e)
theorem rndS_some {v e a b : Int} (h : rndS v e = some (a, b)) : ∃ m, rnd v.natAbs e = some (m, b) ∧ a = sgm (decide (v < 0)) m := by
  unfold rndS sgo at h
  split at h
  · rename_i m x hr
    cases h
    exact ⟨m, hr, rfl⟩
  · cases h
theorem rndS_valid {v e a b : Int} (h : rndS v e = some (a, b)) : RV a.natAbs b := by
  obtain ⟨m, hr, rfl⟩ := rndS_some h
  have := rnd_valid hr
  have e1 : (sgm (decide (v < 0)) (m : Int)).natAbs = m := by unfold sgm; split <;> omega
  rw [e1]; exact this
theorem plR_sgm (s : Bool) {m : Nat} {x : Int} (h : RV m x) : plR (sgm s m) x = if s then -pl m x else pl m x := by
  unfold sgm plR
  by_cases h0 : m = 0
  · subst h0
    cases s <;> simp [pl]
  · have h1 : plP m x = pl m x := by unfold plP pl; rw [if_neg h0]
    cases s
    · simp only [Bool.false_eq_true, if_false]
      rw [if_neg (by omega), if_neg (by omega), ← h1]; rfl
    · simp only [if_true]
      rw [if_neg (by omega), if_pos (by omega), Int.natAbs_neg, ← h1]; rfl
/-- Rounding keeps the order. -/
theorem rndS_mono {v1 v2 e a1 b1 a2 b2 : Int} (h : v1 ≤ v2) (h1 : rndS v1 e = some (a1, b1)) (h2 : rndS v2 e = some (a2, b2)) : plR a1 b1 ≤ plR a2 b2 := by
  obtain ⟨m1, r1, rfl⟩ := rndS_some h1
  obtain ⟨m2, r2, rfl⟩ := rndS_some h2
  have p1 := rnd_valid r1
  have p2 := rnd_valid r2
  rw [plR_sgm _ p1, plR_sgm _ p2]
  have n1 := pl_nonneg p1
  have n2 := pl_nonneg p2
  by_cases s1 : v1 < 0
  · rw [if_pos (by simpa using s1)]
    by_cases s2 : v2 < 0
    · rw [if_pos (by simpa using s2)]
      obtain ⟨m, x, hm, hle⟩ := rnd_mono (show v2.natAbs ≤ v1.natAbs by omega) e r1
      rw [r2] at hm
      cases hm
      omega
    · rw [if_neg (by simpa using s2)]; omega
  · rw [if_neg (by simpa using s1), if_neg (by simp; omega)]
    obtain ⟨m, x, hm, hle⟩ := rnd_mono (show v1.natAbs ≤ v2.natAbs by omega) e r2
    rw [r1] at hm
    cases hm
    exact hle
theorem rndS_mul (v : Int) (j : Nat) (e : Int) : rndS (v * 10 ^ j) (e - j) = rndS v e := by
  unfold rndS
  have hp : (0 : Int) < 10 ^ j := Int.pow_pos (by decide)
  have e1 : (v * 10 ^ j).natAbs = v.natAbs * 10 ^ j := by rw [Int.natAbs_mul, Int.natAbs_pow]; rfl
  have e2 : decide (v * 10 ^ j < 0) = decide (v < 0) := by
    apply decide_eq_decide.2
    constructor
    · intro h1
      by_cases h2 : v < 0
      · exact h2
      · have := Int.mul_nonneg (Int.not_lt.1 h2) (Int.le_of_lt hp); omega
    · intro h1; exact Int.mul_neg_of_neg_of_pos h1 hp
  rw [e1, e2, rnd_mul]
/-- The same at another scale. -/
theorem rndS_scale (v : Int) {e d : Int} (h : d ≤ e) : rndS (v * 10 ^ (e - d).toNat) d = rndS v e := by
  have := rndS_mul v (e - d).toNat e
  rwa [show e - ((e - d).toNat : Int) = d by omega] at this
theorem rndS_self {m e : Int} (h : RV m.natAbs e) : rndS m e = some (m, e) := by
  unfold rndS
  rw [rnd_self h]
  show some (sgm (decide (m < 0)) (m.natAbs : Int), e) = _
  congr 2
  unfold sgm
  by_cases h : m < 0
  · rw [if_pos (by simpa using h)]; omega
  · rw [if_neg (by simpa using h)]; omega
theorem rndS_zero (e : Int) : rndS 0 e = some (0, 0) := by unfold rndS; rw [Int.natAbs_zero, rnd_zero]; rfl
/-- A real as a multiple of the least power. -/
def vR (m e : Int) : Int := m * 10 ^ (e + 111).toNat
theorem rndS_vR {m e : Int} (h : RV m.natAbs e) : rndS (vR m e) (-111) = some (m, e) := by
  have he : -111 ≤ e := by rcases h with ⟨_, rfl⟩ | ⟨_, _, h, _⟩ <;> omega
  have := rndS_scale m he
  rw [show e - -111 = e + 111 by omega] at this
  unfold vR
  rw [this, rndS_self h]
theorem plR_le_of {m e m' e' : Int} (h : RV m.natAbs e) (h' : RV m'.natAbs e') (hv : vR m e ≤ vR m' e') : plR m e ≤ plR m' e' := rndS_mono hv (rndS_vR h) (rndS_vR h')
theorem plR_le {m e m' e' : Int} (h : RV m.natAbs e) (h' : RV m'.natAbs e') : plR m e ≤ plR m' e' ↔ vR m e ≤ vR m' e' := by
  refine ⟨fun hp => ?_, plR_le_of h h'⟩
  by_cases hv : vR m e ≤ vR m' e'
  · exact hv
  · have h1 := plR_le_of h' h (by omega)
    obtain ⟨rfl, rfl⟩ := plR_inj h h' (by omega)
    omega
/-- The reals as multiples of a lower power. -/
theorem vR_scale {m e : Int} (h : RV m.natAbs e) {d : Int} (hd : d ≤ -111) : m * 10 ^ (e - d).toNat = vR m e * 10 ^ (-111 - d).toNat := by
  have he : -111 ≤ e := by rcases h with ⟨_, rfl⟩ | ⟨_, _, h, _⟩ <;> omega
  unfold vR
  rw [Int.mul_assoc, ← Int.pow_add, show (e + 111).toNat + (-111 - d).toNat = (e - d).toNat by omega]
theorem pow_le_pow_left10 {a b : Int} (k : Nat) : a * 10 ^ k ≤ b * 10 ^ k ↔ a ≤ b := by
  have hp : (0 : Int) < 10 ^ k := Int.pow_pos (by decide)
  exact ⟨fun h => Int.le_of_mul_le_mul_right h hp, fun h => Int.mul_le_mul_of_nonneg_right h (Int.le_of_lt hp)⟩
/-- The order at any lower scale. -/
theorem plR_le_at {m e m' e' d : Int} (h : RV m.natAbs e) (h' : RV m'.natAbs e') (hd : d ≤ -111) : plR m e ≤ plR m' e' ↔ m * 10 ^ (e - d).toNat ≤ m' * 10 ^ (e' - d).toNat := by
  rw [plR_le h h', vR_scale h hd, vR_scale h' hd, pow_le_pow_left10]
end Go.Proofs.YtekbfommnmikbaaGreatDoor
/- The reference of layer 2: half, number, signed. -/
namespace Go.Proofs.YtekbfommnmikbaaGreatDoor
set_option linter.unusedVariables false
set_option linter.unusedSimpArgs false
open Go.RowKit Go.Shelf Go.Proofs
attribute [local go_sem ↓] Go.wp_at_zero Go.wp_at_succ

/-- Digits behind a point against a half. -/
def hC (xs : List Int) : Int := sgn (2 * val 10 xs - 10 ^ xs.length)
end Go.Proofs.YtekbfommnmikbaaGreatDoor
/- The reference of layer 2: Round. -/
namespace Go.Proofs.YtekbfommnmikbaaGreatDoor
set_option linter.unusedVariables false
set_option linter.unusedSimpArgs false
open Go.RowKit Go.Shelf Go.Proofs
attribute [local go_sem ↓] Go.wp_at_zero Go.wp_at_succ

end Go.Proofs.YtekbfommnmikbaaGreatDoor
/- Plain mathematics: what is rounded may be cut behind 13 digits, if one more digit says that something was cut off. No program in sight. -/
namespace Go.Proofs.YtekbfommnmikbaaGreatDoor
set_option linter.unusedVariables false
set_option linter.unusedSimpArgs false

end Go.Proofs.YtekbfommnmikbaaGreatDoor
/- Plain laws of the root: what it is, and that it keeps the order. -/
namespace Go.Proofs.YtekbfommnmikbaaGreatDoor
set_option linter.unusedVariables false
set_option linter.unusedSimpArgs false

/-- The number whose root is taken. -/
def rootJ (xe : Int) : Nat := if xe.tmod 2 = 0 then 16 else 15
theorem take_two {ds : List Int} (k : Nat) : ds.take (2 * (k + 1)) = if 2 * k + 1 < ds.length then ds.take (2 * k) ++ [ds[2 * k]?.getD 0, ds[2 * k + 1]?.getD 0] else ds.take (2 * (k + 1)) := by
  split
  · rename_i h
    rw [show 2 * (k + 1) = 2 * k + 1 + 1 by omega, List.take_succ_eq_append_getElem h, List.take_succ_eq_append_getElem (by omega : 2 * k < ds.length), List.append_assoc, List.getElem?_eq_getElem h, List.getElem?_eq_getElem (by omega : 2 * k < ds.length)]
    rfl
  · rfl
theorem pairs_vd {ds : List Int} (hi : InR 10 ds) {h : Nat} (hl : ds.length = 2 * h) : ∀ k, k ≤ h → ((pairs ds k : Nat) : Int) = vd (ds.take (2 * k))
  | 0, _ => rfl
  | k + 1, hk => by
    have ih := pairs_vd hi hl k (by omega)
    rw [take_two, if_pos (by omega), vd_append, ← ih, pairs, Int.natCast_add, Int.natCast_mul, pairAt_int hi (by omega)]
    simp [vd]
    omega
theorem pairs_more {ds : List Int} {h : Nat} (hl : ds.length = 2 * h) : ∀ j, pairs ds (h + j) = pairs ds h * 100 ^ j
  | 0 => by simp
  | j + 1 => by
    have h0 : pairAt ds (h + j) = 0 := by unfold pairAt; rw [if_neg (by omega)]
    rw [show h + (j + 1) = (h + j) + 1 by omega, pairs, h0, pairs_more hl j, Nat.pow_succ]
    generalize 100 ^ j = p; grind
theorem rootL_facts {M : Nat} {xe : Int} (h : RV M xe) (h0 : 0 < M) : InR 10 (rootL M xe) ∧ pairs (rootL M xe) 14 = M * 10 ^ rootJ xe ∧ ((rootL M xe).length = 12 ∨ (rootL M xe).length = 14) ∧ 2 * rootX M xe = xe - rootJ xe := by
  have h12 : (dg 10 M).reverse.length = 12 := by
    rw [List.length_reverse]
    rcases RV_nd h with h | h
    · exact absurd (nd_pos h0) (by omega)
    · exact h
  have hin := inR_dgR M
  have hv := vd_dg M
  have hdm := Int.mul_tdiv_add_tmod xe 2
  unfold rootX rootJ rootE rootL
  by_cases hp : xe.tmod 2 = 0
  · simp only [if_pos hp]
    refine ⟨hin, ?_, .inl h12, by rw [h12]; omega⟩
    have a := pairs_vd hin (h := 6) (by omega) 6 (Nat.le_refl _)
    rw [List.take_of_length_le (by omega), hv] at a
    have b := pairs_more (ds := (dg 10 M).reverse) (h := 6) (by omega) 8
    rw [b, Int.ofNat_inj.1 a]
  · simp only [if_neg hp]
    have hin2 : InR 10 ([0] ++ (dg 10 M).reverse ++ [0]) := ((InR.cons (by decide) (by decide) (InR.nil _)).append hin).append (InR.cons (by decide) (by decide) (InR.nil _))
    have hl2 : ([0] ++ (dg 10 M).reverse ++ [0]).length = 14 := by rw [List.length_append, List.length_append, h12]; rfl
    have hdm2 := Int.mul_tdiv_add_tmod (xe - 1) 2
    have ht : xe.tmod 2 = 1 ∨ xe.tmod 2 = -1 := by
      have h4 : -2 < xe.tmod 2 ∧ xe.tmod 2 < 2 := by
        rcases Int.le_total 0 xe with h | h
        · obtain ⟨k, rfl⟩ := Int.eq_ofNat_of_zero_le h
          rw [show ((k : Int).tmod 2) = ((k % 2 : Nat) : Int) from rfl]; omega
        · obtain ⟨k, hk⟩ := Int.eq_ofNat_of_zero_le (show 0 ≤ -xe by omega)
          obtain rfl : xe = -(k : Int) := by omega
          rw [Int.neg_tmod, show ((k : Int).tmod 2) = ((k % 2 : Nat) : Int) from rfl]; omega
      omega
    have ht2 : (xe - 1).tmod 2 = 0 := by
      have h4 : -2 < (xe - 1).tmod 2 ∧ (xe - 1).tmod 2 < 2 := by
        rcases Int.le_total 0 (xe - 1) with h | h
        · obtain ⟨k, hk⟩ := Int.eq_ofNat_of_zero_le h
          rw [hk, show ((k : Int).tmod 2) = ((k % 2 : Nat) : Int) from rfl]; omega
        · obtain ⟨k, hk⟩ := Int.eq_ofNat_of_zero_le (show 0 ≤ -(xe - 1) by omega)
          rw [show xe - 1 = -(k : Int) by omega, Int.neg_tmod, show ((k : Int).tmod 2) = ((k % 2 : Nat) : Int) from rfl]; omega
      omega
    refine ⟨hin2, ?_, .inr hl2, by rw [hl2]; omega⟩
    have a := pairs_vd hin2 (h := 7) (by omega) 7 (Nat.le_refl _)
    have e9 : vd ([0] ++ (dg 10 M).reverse ++ [0]) = 10 * (M : Int) := by rw [vd_snoc, List.singleton_append, vd_cons, Int.zero_mul, hv]; omega
    rw [List.take_of_length_le (by omega), e9] at a
    have b := pairs_more (ds := [0] ++ (dg 10 M).reverse ++ [0]) (h := 7) (by omega) 7
    have a2 : pairs ([0] ++ (dg 10 M).reverse ++ [0]) 7 = 10 * M := by omega
    rw [b, a2, show (100 : Nat) ^ 7 = 10 ^ 14 from rfl, Nat.pow_succ 10 14]
    generalize (10 : Nat) ^ 14 = p; grind
/-- The root in one form. -/
theorem rootV_form {M : Nat} {xe : Int} (h : RV M xe) (h0 : 0 < M) : ∃ R S, RootAt (M * 10 ^ rootJ xe) R S ∧ rootV M xe = rnd (10 * R + (if S = 0 then 0 else 1)) (rootX M xe - 1) := by
  obtain ⟨hi, hp, hl, hx⟩ := rootL_facts h h0
  have hr := rs_root hi 14
  rw [hp] at hr
  refine ⟨_, _, hr, ?_⟩
  have hf : vd (firsts (ritem (rootL M xe)) 14) = ((rs (rootL M xe) 14).1 : Int) := ritem_vd 14
  have hm : lastMore (ritem (rootL M xe)) 14 = decide (0 < (rs (rootL M xe) 14).2) := by
    show (ritem (rootL M xe) 13).2 = _
    unfold ritem
    simp only []
    rw [show decide ((2 * (13 : Nat) + 2 : Int) < ((rootL M xe).length : Int)) = false from by rw [decide_eq_false_iff_not]; omega, Bool.or_false]
    apply decide_eq_decide.2
    simp only [Nat.reduceAdd]
    omega
  unfold rootV
  obtain ⟨R, hR⟩ : ∃ R, (rs (rootL M xe) 14).1 = R := ⟨_, rfl⟩
  obtain ⟨S, hS⟩ : ∃ S, (rs (rootL M xe) 14).2 = S := ⟨_, rfl⟩
  rw [hm, hS, hR]
  rw [hR] at hf
  by_cases hs : S = 0
  · rw [if_pos hs, show decide (0 < S) = false from decide_eq_false (by omega)]
    show rnd (vd (firsts (ritem (rootL M xe)) 14)).toNat (rootX M xe) = _
    rw [hf, Int.toNat_natCast, Nat.add_zero]
    have := rnd_mul R 1 (rootX M xe)
    rw [Nat.pow_one, Nat.mul_comm] at this
    exact this.symm
  · rw [if_neg hs, show decide (0 < S) = true from decide_eq_true (by omega)]
    show rnd (vd (firsts (ritem (rootL M xe)) 14 ++ [1])).toNat (rootX M xe - 1) = _
    rw [vd_snoc, hf]
    congr 1
end Go.Proofs.YtekbfommnmikbaaGreatDoor
/- Plain laws: the operations on reals keep the order. -/
namespace Go.Proofs.YtekbfommnmikbaaGreatDoor
set_option linter.unusedVariables false
set_option linter.unusedSimpArgs false

/-- A result and its error. -/
def resS : Option (Int × Int) → Value
  | some (a, b) => .tuple #[.agg #[.int .i64 a, .int .i64 b], .int .i64 0]
  | none => .tuple #[.agg #[.int .i64 0, .int .i64 0], .int .i64 3]
theorem resR_sgo (s : Bool) (o : Option (Nat × Int)) : resR s o = resS (sgo s o) := by
  rcases o with _ | ⟨m, x⟩ <;> rfl
theorem resR_rndS (v e : Int) : resR (decide (v < 0)) (rnd v.natAbs e) = resS (rndS v e) := resR_sgo _ _
/-- Two results are in order, if there is no error. -/
def BothP (a b er a' b' er' : Int) : Prop := er ≠ 0 ∨ er' ≠ 0 ∨ (RV a.natAbs b ∧ RV a'.natAbs b' ∧ plR a b ≤ plR a' b')
def BothV (V V' : Value) : Prop := ∃ a b er a' b' er', V = .tuple #[.agg #[.int .i64 a, .int .i64 b], .int .i64 er] ∧ V' = .tuple #[.agg #[.int .i64 a', .int .i64 b'], .int .i64 er'] ∧ BothP a b er a' b' er'
theorem both_resS {o o' : Option (Int × Int)} (h : ∀ a b a' b', o = some (a, b) → o' = some (a', b') → RV a.natAbs b ∧ RV a'.natAbs b' ∧ plR a b ≤ plR a' b') : BothV (resS o) (resS o') := by
  rcases o with _ | ⟨a, b⟩
  · rcases o' with _ | ⟨a', b'⟩
    · exact ⟨_, _, _, _, _, _, rfl, rfl, .inl (by decide)⟩
    · exact ⟨_, _, _, _, _, _, rfl, rfl, .inl (by decide)⟩
  · rcases o' with _ | ⟨a', b'⟩
    · exact ⟨_, _, _, _, _, _, rfl, rfl, .inr (.inl (by decide))⟩
    · exact ⟨_, _, _, _, _, _, rfl, rfl, .inr (.inr (h _ _ _ _ rfl rfl))⟩
theorem both_rndS {v v' : Int} (e : Int) (h : v ≤ v') : BothV (resS (rndS v e)) (resS (rndS v' e)) :=
  both_resS fun a b a' b' h1 h2 => ⟨rndS_valid h1, rndS_valid h2, rndS_mono h h1 h2⟩
theorem both_err {a b er : Int} {V : Value} (he : er ≠ 0) (hV : ∃ a' b' er', V = .tuple #[.agg #[.int .i64 a', .int .i64 b'], .int .i64 er']) : BothV (.tuple #[.agg #[.int .i64 a, .int .i64 b], .int .i64 er]) V := by
  obtain ⟨a', b', er', rfl⟩ := hV
  exact ⟨_, _, _, _, _, _, rfl, rfl, .inl he⟩

theorem le_at {xm xe ym ye : Int} (hx : RV xm.natAbs xe) (hy : RV ym.natAbs ye) (h : plR xm xe ≤ plR ym ye) : xm * 10 ^ (xe + 222).toNat ≤ ym * 10 ^ (ye + 222).toNat := by
  have := (plR_le_at hx hy (d := -222) (by decide)).1 h
  simpa using this
theorem add_form {xm xe ym ye : Int} (hx : RV xm.natAbs xe) (hy : RV ym.natAbs ye) : addX xm xe ym ye = resS (rndS (xm * 10 ^ (xe + 222).toNat + ym * 10 ^ (ye + 222).toNat) (-222)) := by
  unfold addX doneR
  rw [if_pos ⟨hx, hy⟩, if_pos rfl, ← resR_rndS]
  unfold sumR
  simp only [sumV, Int.add_zero]
theorem add_both {xm xe ym ye zm ze : Int} (hx : RV xm.natAbs xe) (hy : RV ym.natAbs ye) (hz : RV zm.natAbs ze) (h : plR xm xe ≤ plR ym ye) : BothV (addX xm xe zm ze) (addX ym ye zm ze) := by
  rw [add_form hx hz, add_form hy hz]
  refine both_rndS _ ?_
  have := le_at hx hy h
  omega
theorem mul_form {xm xe ym ye : Int} (hx : RV xm.natAbs xe) (hy : RV ym.natAbs ye) : mulX xm xe ym ye = resS (rndS (xm * ym * 10 ^ (xe + ye + 222).toNat) (-222)) := by
  unfold mulX doneR
  rw [if_pos ⟨hx, hy⟩, if_pos rfl]
  unfold prodR
  have e1 : (xm * ym * 10 ^ (xe + ye + 222).toNat).natAbs = xm.natAbs * ym.natAbs * 10 ^ (xe + ye + 222).toNat := by
    rw [Int.natAbs_mul, Int.natAbs_mul, Int.natAbs_pow]; rfl
  have hp : (0 : Int) < 10 ^ (xe + ye + 222).toNat := Int.pow_pos (by decide)
  unfold rndS
  rw [e1, resR_sgo]
  by_cases h0 : xm.natAbs * ym.natAbs * 10 ^ (xe + ye + 222).toNat = 0
  · rw [h0, rnd_zero]
    unfold sgo sgm
    simp
  · congr 2
    generalize (10 : Int) ^ (xe + ye + 222).toNat = p at *
    have h2 : xm ≠ 0 := fun e => h0 (by subst e; simp)
    have h3 : ym ≠ 0 := fun e => h0 (by subst e; simp)
    by_cases s1 : xm < 0
    · by_cases s2 : ym < 0
      · have := Int.mul_pos (Int.mul_pos_of_neg_of_neg s1 s2) hp
        rw [show decide (xm * ym * p < 0) = false from decide_eq_false (by omega), decide_eq_true s1, decide_eq_true s2]; rfl
      · have := Int.mul_neg_of_neg_of_pos (Int.mul_neg_of_neg_of_pos s1 (show 0 < ym by omega)) hp
        rw [decide_eq_true this, decide_eq_true s1, decide_eq_false s2]; rfl
    · by_cases s2 : ym < 0
      · have := Int.mul_neg_of_neg_of_pos (Int.mul_neg_of_pos_of_neg (show 0 < xm by omega) s2) hp
        rw [decide_eq_true this, decide_eq_false s1, decide_eq_true s2]; rfl
      · have := Int.mul_pos (Int.mul_pos (show 0 < xm by omega) (show 0 < ym by omega)) hp
        rw [show decide (xm * ym * p < 0) = false from decide_eq_false (by omega), decide_eq_false s1, decide_eq_false s2]; rfl
theorem pow_toNat_add {a b : Int} (ha : 0 ≤ a) (hb : 0 ≤ b) : (10 : Int) ^ (a + b).toNat = 10 ^ a.toNat * 10 ^ b.toNat := by
  rw [← Int.pow_add]; congr 1; omega
theorem RV_exp {m : Nat} {e : Int} (h : RV m e) : -111 ≤ e ∧ e ≤ 88 := by rcases h with ⟨_, rfl⟩ | ⟨_, _, h1, h2⟩ <;> omega
theorem mul_at {xm xe zm ze : Int} (hx : RV xm.natAbs xe) (hz : RV zm.natAbs ze) : xm * zm * 10 ^ (xe + ze + 222).toNat = vR xm xe * vR zm ze := by
  have a := RV_exp hx; have b := RV_exp hz
  unfold vR
  rw [show xe + ze + 222 = (xe + 111) + (ze + 111) by omega, pow_toNat_add (by omega) (by omega)]
  grind
theorem vR_sign (m e : Int) : (0 ≤ m → 0 ≤ vR m e) ∧ (m < 0 → vR m e < 0) := by
  have hp : (0 : Int) < 10 ^ (e + 111).toNat := Int.pow_pos (by decide)
  exact ⟨fun h => Int.mul_nonneg h (Int.le_of_lt hp), fun h => Int.mul_neg_of_neg_of_pos h hp⟩
theorem mul_both {xm xe ym ye zm ze : Int} (hx : RV xm.natAbs xe) (hy : RV ym.natAbs ye) (hz : RV zm.natAbs ze) (h : plR xm xe ≤ plR ym ye) : (0 ≤ zm → BothV (mulX xm xe zm ze) (mulX ym ye zm ze)) ∧ (zm < 0 → BothV (mulX ym ye zm ze) (mulX xm xe zm ze)) := by
  have hv := (plR_le hx hy).1 h
  have hs := vR_sign zm ze
  rw [mul_form hx hz, mul_form hy hz, mul_at hx hz, mul_at hy hz]
  exact ⟨fun h0 => both_rndS _ (Int.mul_le_mul_of_nonneg_right hv (hs.1 h0)), fun h0 => both_rndS _ (Int.mul_le_mul_of_nonpos_right hv (Int.le_of_lt (hs.2 h0)))⟩
theorem scale_form {m e n : Int} (h : RV m.natAbs e) (h1 : ¬ (1000 < n ∨ n < -1000)) : scaleR m e n = resS (rndS (vR m e) (n - 111)) := by
  unfold scaleR
  have a := RV_exp h
  rw [if_neg (fun x => x h), if_neg h1, resR_rndS, ← rndS_scale m (show n - 111 ≤ e + n by omega)]
  unfold vR
  rw [show e + n - (n - 111) = e + 111 by omega]
theorem scale_both {xm xe ym ye n : Int} (hx : RV xm.natAbs xe) (hy : RV ym.natAbs ye) (h : plR xm xe ≤ plR ym ye) : BothV (scaleR xm xe n) (scaleR ym ye n) := by
  by_cases h1 : 1000 < n ∨ n < -1000
  · unfold scaleR
    rw [if_neg (fun x => x hx), if_pos h1, if_neg (fun x => x hy), if_pos h1]
    exact both_err (by decide) ⟨_, _, _, rfl⟩
  · rw [scale_form hx h1, scale_form hy h1]
    exact both_rndS _ ((plR_le hx hy).1 h)

/-- The nearest multiple of 10^-p, as a number of them. -/
def rqN (n : Nat) (p : Int) : Nat := if p ≤ 111 then rdiv n (111 - p).toNat else n * 10 ^ (p - 111).toNat
def rqS (v p : Int) : Int := if v < 0 then -(rqN v.natAbs p : Int) else rqN v.natAbs p
theorem rdiv_mono0 {m n : Nat} (h : m ≤ n) (k : Nat) : rdiv m k ≤ rdiv n k := by
  unfold rdiv
  have hp : 0 < 10 ^ k := Nat.pow_pos (by decide)
  have a := Nat.div_add_mod m (10 ^ k)
  have b := Nat.div_add_mod n (10 ^ k)
  have c := Nat.div_le_div_right (c := 10 ^ k) h
  have l1 := half_le (m % 10 ^ k) k (m / 10 ^ k)
  by_cases e : m / 10 ^ k = n / 10 ^ k
  · rw [e]
    unfold halfUp
    have hr : m % 10 ^ k ≤ n % 10 ^ k := by rw [e] at a; omega
    split
    · split
      · exact Nat.le_refl _
      · omega
    · split <;> omega
  · omega
theorem rqN_mono {m n : Nat} (h : m ≤ n) (p : Int) : rqN m p ≤ rqN n p := by
  unfold rqN
  split
  · exact rdiv_mono0 h _
  · exact Nat.mul_le_mul_right _ h
theorem rqS_mono {v v' : Int} (h : v ≤ v') (p : Int) : rqS v p ≤ rqS v' p := by
  unfold rqS
  by_cases a : v < 0
  · rw [if_pos a]
    by_cases b : v' < 0
    · rw [if_pos b]
      have := rqN_mono (show v'.natAbs ≤ v.natAbs by omega) p
      omega
    · rw [if_neg b]; omega
  · rw [if_neg a, if_neg (by omega)]
    have := rqN_mono (show v.natAbs ≤ v'.natAbs by omega) p
    omega
theorem vR_abs {m e : Int} : (vR m e).natAbs = m.natAbs * 10 ^ (e + 111).toNat := by unfold vR; rw [Int.natAbs_mul, Int.natAbs_pow]; rfl
theorem vR_neg (m e : Int) : vR m e < 0 ↔ m < 0 := by
  have h := vR_sign m e
  constructor
  · intro h1
    by_cases h2 : m < 0
    · exact h2
    · have := h.1 (by omega); omega
  · exact h.2
/-- What is rounded to a multiple, where digits are cut. -/
theorem rqN_cut {m : Nat} {e p : Int} (he : -111 ≤ e) (h : 0 ≤ -p - e) : rqN (m * 10 ^ (e + 111).toNat) p = rdiv m (-p - e).toNat := by
  unfold rqN
  rw [if_pos (by omega), show (111 - p).toNat = (-p - e).toNat + (e + 111).toNat by omega, rdiv_mul]
theorem rqN_keep {m : Nat} {e p : Int} (he : -111 ≤ e) (h : -p - e ≤ 0) : rqN (m * 10 ^ (e + 111).toNat) p = m * 10 ^ (e + p).toNat := by
  unfold rqN
  by_cases hp : p ≤ 111
  · rw [if_pos hp]
    have e1 : m * 10 ^ (e + 111).toNat = m * 10 ^ (e + p).toNat * 10 ^ (111 - p).toNat := by
      rw [Nat.mul_assoc, ← Nat.pow_add]; congr 2; omega
    have := rdiv_mul (m * 10 ^ (e + p).toNat) 0 (111 - p).toNat
    rw [Nat.zero_add] at this
    rw [e1, this, rdiv_zero]
  · rw [if_neg hp, Nat.mul_assoc, ← Nat.pow_add]
    congr 2; omega
theorem rdiv_small {m k : Nat} (h : nd m < k) : rdiv m k = 0 := by
  have h1 := lt_nd m
  have h2 : 10 ^ nd m * 10 ≤ 10 ^ k := by
    rw [← Nat.pow_succ]; exact Nat.pow_le_pow_right (by decide) h
  unfold rdiv halfUp
  rw [Nat.div_eq_of_lt (by omega), Nat.mod_eq_of_lt (by omega), if_neg (by omega)]
theorem round_form {m e p : Int} (h : RV m.natAbs e) (h1 : ¬ (1000 < p ∨ p < -1000)) : roundR m e p = resS (rndS (rqS (vR m e) p) (-p)) := by
  unfold roundR
  have a := RV_exp h
  rw [if_neg (fun x => x h), if_neg h1]
  have hab : (rqS (vR m e) p).natAbs = rqN (m.natAbs * 10 ^ (e + 111).toNat) p := by
    unfold rqS; rw [vR_abs]; split <;> omega
  by_cases c1 : -p - e ≤ 0
  · rw [if_pos c1]
    have e1 : rqS (vR m e) p = m * 10 ^ (e + p).toNat := by
      unfold rqS
      rw [vR_abs, rqN_keep a.1 c1]
      have e2 : ((m.natAbs * 10 ^ (e + p).toNat : Nat) : Int) = (m.natAbs : Int) * 10 ^ (e + p).toNat := by rw [Int.natCast_mul, Int.natCast_pow]; rfl
      rw [e2]
      by_cases hm : m < 0
      · rw [if_pos ((vR_neg m e).2 hm), ← Int.neg_mul]; congr 1; omega
      · rw [if_neg (fun x => hm ((vR_neg m e).1 x))]; congr 1; omega
    rw [e1]
    have := rndS_scale m (show -p ≤ e by omega)
    rw [show e - -p = e + p by omega] at this
    rw [this, rndS_self h]
    rfl
  · rw [if_neg c1]
    have hcut := rqN_cut (m := m.natAbs) a.1 (show 0 ≤ -p - e by omega)
    rw [hcut] at hab
    by_cases c2 : (nd m.natAbs : Int) < -p - e
    · rw [if_pos c2]
      rw [rdiv_small (by omega)] at hab
      rw [show rqS (vR m e) p = 0 by omega, rndS_zero]
      rfl
    · rw [if_neg c2]
      unfold rndS
      rw [hab, resR_sgo]
      by_cases h0 : rdiv m.natAbs (-p - e).toNat = 0
      · rw [h0, rnd_zero]; unfold sgo sgm; simp
      · congr 2
        apply decide_eq_decide.2
        rw [← vR_neg m e]
        unfold rqS
        rw [vR_abs, hcut]
        split <;> omega
theorem round_both {xm xe ym ye n : Int} (hx : RV xm.natAbs xe) (hy : RV ym.natAbs ye) (h : plR xm xe ≤ plR ym ye) : BothV (roundR xm xe n) (roundR ym ye n) := by
  by_cases h1 : 1000 < n ∨ n < -1000
  · unfold roundR
    rw [if_neg (fun x => x hx), if_pos h1, if_neg (fun x => x hy), if_pos h1]
    exact both_err (by decide) ⟨_, _, _, rfl⟩
  · rw [round_form hx h1, round_form hy h1]
    exact both_rndS _ (rqS_mono ((plR_le hx hy).1 h) n)
end Go.Proofs.YtekbfommnmikbaaGreatDoor
/- Plain laws: the root keeps the order; the floor. -/
namespace Go.Proofs.YtekbfommnmikbaaGreatDoor
set_option linter.unusedVariables false
set_option linter.unusedSimpArgs false

theorem root_size {M : Nat} {xe : Int} (h : RV M xe) (h0 : 0 < M) {R S : Nat} (hr : RootAt (M * 10 ^ rootJ xe) R S) : 10000000000000 ≤ R ∧ R < 100000000000000 := by
  have hM : 100000000000 ≤ M ∧ M < 1000000000000 := by unfold RV at h; omega
  have a := rootAt_le hr
  have hj : rootJ xe = 16 ∨ rootJ xe = 15 := by unfold rootJ; split <;> simp
  have b : 100000000000000000000000000 ≤ M * 10 ^ rootJ xe ∧ M * 10 ^ rootJ xe < 10000000000000000000000000000 := by
    rcases hj with hj | hj <;> rw [hj] <;> omega
  constructor
  · rcases Nat.lt_or_ge R 10000000000000 with h1 | h1
    · have := Nat.mul_le_mul (show R + 1 ≤ 10000000000000 from h1) (show R + 1 ≤ 10000000000000 from h1)
      omega
    · exact h1
  · rcases Nat.lt_or_ge R 100000000000000 with h1 | h1
    · exact h1
    · have := Nat.mul_le_mul h1 h1
      omega
theorem root_steps {P P' R R' S S' : Nat} (h : P ≤ P') (hr : RootAt P R S) (hr' : RootAt P' R' S') : 10 * R + (if S = 0 then 0 else 1) ≤ 10 * R' + (if S' = 0 then 0 else 1) := by
  have a := rootAt_le hr
  have a' := rootAt_le hr'
  have hR : R ≤ R' := by
    rcases Nat.lt_or_ge R' R with h1 | h1
    · have := Nat.mul_le_mul (show R' + 1 ≤ R from h1) (show R' + 1 ≤ R from h1)
      omega
    · exact h1
  by_cases e : R = R'
  · subst e
    have b := hr.1; have b' := hr'.1
    by_cases s : S = 0
    · rw [if_pos s]; split <;> omega
    · rw [if_neg s, if_neg (by omega)]; exact Nat.le_refl _
  · split <;> split <;> omega
theorem rootX_mono {M M' : Nat} {e e' : Int} (h : RV M e) (h' : RV M' e') (h0 : 0 < M) (h0' : 0 < M') (hp : pl M e ≤ pl M' e') : rootX M e < rootX M' e' ∨ (rootX M e = rootX M' e' ∧ M * 10 ^ rootJ e ≤ M' * 10 ^ rootJ e') := by
  obtain ⟨_, _, _, hx⟩ := rootL_facts h h0
  obtain ⟨_, _, _, hx'⟩ := rootL_facts h' h0'
  have hM : 100000000000 ≤ M ∧ M < 1000000000000 := by unfold RV at h; omega
  have hM' : 100000000000 ≤ M' ∧ M' < 1000000000000 := by unfold RV at h'; omega
  rw [pl_pos hM.1, pl_pos hM'.1] at hp
  have hj : rootJ e = 16 ∨ rootJ e = 15 := by unfold rootJ; split <;> simp
  have hj' : rootJ e' = 16 ∨ rootJ e' = 15 := by unfold rootJ; split <;> simp
  rcases hj with hj | hj <;> rcases hj' with hj' | hj' <;> rw [hj] at hx ⊢ <;> rw [hj'] at hx' ⊢
  · by_cases e1 : e = e'
    · right; exact ⟨by omega, Nat.mul_le_mul_right _ (by omega)⟩
    · left; omega
  · left; omega
  · by_cases e1 : e + 1 = e'
    · right; exact ⟨by omega, by omega⟩
    · left; omega
  · by_cases e1 : e = e'
    · right; exact ⟨by omega, Nat.mul_le_mul_right _ (by omega)⟩
    · left; omega
theorem rootV_mono {M M' : Nat} {e e' : Int} (h : RV M e) (h' : RV M' e') (h0 : 0 < M) (h0' : 0 < M') (hp : pl M e ≤ pl M' e') {m m' : Nat} {x x' : Int} (hr : rootV M e = some (m, x)) (hr' : rootV M' e' = some (m', x')) : pl m x ≤ pl m' x' := by
  obtain ⟨R, S, a, b⟩ := rootV_form h h0
  obtain ⟨R', S', a', b'⟩ := rootV_form h' h0'
  rw [b] at hr
  rw [b'] at hr'
  have c := root_size h h0 a
  have c' := root_size h' h0' a'
  rcases rootX_mono h h' h0 h0' hp with hx | ⟨hx, hn⟩
  · obtain ⟨d, hd⟩ : ∃ d : Nat, rootX M' e' - rootX M e = (d : Int) + 1 := ⟨(rootX M' e' - rootX M e - 1).toNat, by omega⟩
    have hm := rnd_mul (10 * R' + (if S' = 0 then 0 else 1)) (d + 1) (rootX M' e' - 1)
    rw [hr', show rootX M' e' - 1 - ((d + 1 : Nat) : Int) = rootX M e - 1 by omega] at hm
    have hle : 10 * R + (if S = 0 then 0 else 1) ≤ (10 * R' + (if S' = 0 then 0 else 1)) * 10 ^ (d + 1) := by
      have hp : 0 < 10 ^ d := Nat.pow_pos (by decide)
      have h1 := Nat.mul_le_mul (show 100000000000000 ≤ 10 * R' + (if S' = 0 then 0 else 1) by omega) (show 10 ≤ 10 ^ (d + 1) by rw [Nat.pow_succ]; omega)
      split <;> omega
    obtain ⟨m1, x1, k1, k2⟩ := rnd_mono hle _ hm
    rw [hr] at k1
    cases k1
    exact k2
  · have hle := root_steps hn a a'
    rw [← hx] at hr'
    obtain ⟨m1, x1, k1, k2⟩ := rnd_mono hle _ hr'
    rw [hr] at k1
    cases k1
    exact k2
theorem plR_nat {m : Nat} {x : Int} (h : RV m x) : plR (m : Int) x = pl m x := by
  have := plR_sgm false h
  exact this
theorem rootV_none {M : Nat} {e : Int} {m : Nat} {x : Int} (h : rootV M e = some (m, x)) : RV m x := by unfold rootV at h; exact rnd_valid h
theorem root_both {xm xe ym ye : Int} (hx : RV xm.natAbs xe) (hy : RV ym.natAbs ye) (h : plR xm xe ≤ plR ym ye) : BothV (rootR xm xe) (rootR ym ye) := by
  have form : ∀ {m e : Int}, ∃ a b c, rootR m e = .tuple #[.agg #[.int .i64 a, .int .i64 b], .int .i64 c] := by
    intro m e
    unfold rootR
    split
    · exact ⟨_, _, _, rfl⟩
    · split
      · exact ⟨_, _, _, rfl⟩
      · split
        · exact ⟨_, _, _, rfl⟩
        · exact res_form _ _
  by_cases hx0 : xm < 0
  · have : rootR xm xe = .tuple #[.agg #[.int .i64 0, .int .i64 0], .int .i64 5] := by unfold rootR; rw [if_neg (fun n => n hx), if_pos hx0]
    rw [this]
    exact both_err (by decide) form
  have hx1 : 0 ≤ plR xm xe := by
    have := plR_sgm false hx
    rw [show sgm false (xm.natAbs : Int) = xm by show (xm.natAbs : Int) = xm; omega] at this
    rw [this]; exact pl_nonneg hx
  by_cases hy0 : ym < 0
  · exfalso
    have := plR_sgm true hy
    rw [show sgm true (ym.natAbs : Int) = ym by show -(ym.natAbs : Int) = ym; omega] at this
    rw [this] at h
    have h3 : 0 < pl ym.natAbs ye := by
      unfold RV at hy; rw [pl_pos (by omega)]; omega
    simp at h
    omega
  by_cases hxz : xm = 0
  · have hrx : rootR xm xe = .tuple #[.agg #[.int .i64 xm, .int .i64 xe], .int .i64 0] := by unfold rootR; rw [if_neg (fun n => n hx), if_neg hx0, if_pos hxz]
    rw [hrx]
    have hxv : plR xm xe = 0 := by unfold plR; rw [if_pos hxz]
    by_cases hyz : ym = 0
    · have hry : rootR ym ye = .tuple #[.agg #[.int .i64 ym, .int .i64 ye], .int .i64 0] := by unfold rootR; rw [if_neg (fun n => n hy), if_neg hy0, if_pos hyz]
      rw [hry]
      exact ⟨_, _, _, _, _, _, rfl, rfl, .inr (.inr ⟨hx, hy, h⟩)⟩
    · have hry : rootR ym ye = resS (sgo false (rootV ym.natAbs ye)) := by unfold rootR; rw [if_neg (fun n => n hy), if_neg hy0, if_neg hyz, resR_sgo]
      rw [hry]
      cases hv : rootV ym.natAbs ye with
      | none => exact ⟨_, _, _, _, _, _, rfl, rfl, .inr (.inl (by decide))⟩
      | some p =>
        obtain ⟨m, x⟩ := p
        refine ⟨_, _, _, _, _, _, rfl, rfl, .inr (.inr ⟨hx, rootV_none hv, ?_⟩)⟩
        rw [hxv]
        show 0 ≤ plR (m : Int) x
        rw [plR_nat (rootV_none hv)]
        exact pl_nonneg (rootV_none hv)
  · have hrx : rootR xm xe = resS (sgo false (rootV xm.natAbs xe)) := by unfold rootR; rw [if_neg (fun n => n hx), if_neg hx0, if_neg hxz, resR_sgo]
    have hyz : ym ≠ 0 := by
      intro e
      have h1 : plR ym ye = 0 := by unfold plR; rw [if_pos e]
      have h2 := plR_sgm false hx
      rw [show sgm false (xm.natAbs : Int) = xm by show (xm.natAbs : Int) = xm; omega] at h2
      have h3 : 0 < pl xm.natAbs xe := by
        unfold RV at hx; rw [pl_pos (by omega)]; omega
      simp at h2
      omega
    have hry : rootR ym ye = resS (sgo false (rootV ym.natAbs ye)) := by unfold rootR; rw [if_neg (fun n => n hy), if_neg hy0, if_neg hyz, resR_sgo]
    rw [hrx, hry]
    refine both_resS fun a b a' b' h1 h2 => ?_
    cases hv : rootV xm.natAbs xe with
    | none => rw [hv] at h1; cases h1
    | some p =>
      cases hv' : rootV ym.natAbs ye with
      | none => rw [hv'] at h2; cases h2
      | some p' =>
        obtain ⟨m, x⟩ := p
        obtain ⟨m', x'⟩ := p'
        rw [hv] at h1; rw [hv'] at h2
        cases h1; cases h2
        have r1 := rootV_none hv
        have r2 := rootV_none hv'
        refine ⟨r1, r2, ?_⟩
        show plR (m : Int) _ ≤ plR (m' : Int) _
        rw [plR_nat r1, plR_nat r2]
        refine rootV_mono hx hy (by omega) (by omega) ?_ hv hv'
        have h3 := plR_sgm false hx
        have h4 := plR_sgm false hy
        rw [show sgm false (xm.natAbs : Int) = xm by show (xm.natAbs : Int) = xm; omega] at h3
        rw [show sgm false (ym.natAbs : Int) = ym by show (ym.natAbs : Int) = ym; omega] at h4
        simp at h3 h4
        omega

/-- The floor of a real. -/
def floorV (m e : Int) : Int := if 0 ≤ e then m * 10 ^ e.toNat else m.fdiv (10 ^ (-e).toNat)
theorem floor_eq {m e : Int} (h : -111 ≤ e) : floorV m e = (vR m e).fdiv (10 ^ 111) := by
  unfold floorV vR
  by_cases h0 : 0 ≤ e
  · rw [if_pos h0, show (e + 111).toNat = e.toNat + 111 by omega, Int.pow_add, ← Int.mul_assoc, Int.mul_fdiv_cancel _ (by decide)]
  · rw [if_neg h0, show (111 : Nat) = (-e).toNat + (e + 111).toNat by omega, Int.pow_add]
    have hp : (0 : Int) < 10 ^ (e + 111).toNat := Int.pow_pos (by decide)
    have hq : (0 : Int) < 10 ^ (-e).toNat := Int.pow_pos (by decide)
    rw [Int.fdiv_eq_ediv_of_nonneg _ (Int.le_of_lt hq), Int.fdiv_eq_ediv_of_nonneg _ (Int.mul_nonneg (Int.le_of_lt hq) (Int.le_of_lt hp)), Int.mul_ediv_mul_of_pos_left _ _ hp]
theorem floor_mono {xm xe ym ye : Int} (hx : RV xm.natAbs xe) (hy : RV ym.natAbs ye) (h : plR xm xe ≤ plR ym ye) : floorV xm xe ≤ floorV ym ye := by
  rw [floor_eq (RV_exp hx).1, floor_eq (RV_exp hy).1]
  have h1 := (plR_le hx hy).1 h
  have hq : (0 : Int) < 10 ^ 111 := Int.pow_pos (by decide)
  rw [Int.fdiv_eq_ediv_of_nonneg _ (Int.le_of_lt hq), Int.fdiv_eq_ediv_of_nonneg _ (Int.le_of_lt hq)]
  exact Int.ediv_le_ediv hq h1
end Go.Proofs.YtekbfommnmikbaaGreatDoor
/- The reference of layer 2: Whole, FromNumber, Floor. -/
namespace Go.Proofs.YtekbfommnmikbaaGreatDoor
set_option linter.unusedVariables false
set_option linter.unusedSimpArgs false
open Go.RowKit Go.Shelf Go.Proofs
attribute [local go_sem ↓] Go.wp_at_zero Go.wp_at_succ

end Go.Proofs.YtekbfommnmikbaaGreatDoor
/- Package real: FromNumber, Floor. -/
namespace Go.Proofs.YtekbfommnmikbaaGreatDoor
set_option linter.unusedVariables false
set_option linter.unusedSimpArgs false
open Go.RowKit Go.Shelf Go.Proofs
attribute [local go_sem ↓] Go.wp_at_zero Go.wp_at_succ

end Go.Proofs.YtekbfommnmikbaaGreatDoor
/- Package real: Floor. -/
namespace Go.Proofs.YtekbfommnmikbaaGreatDoor
set_option linter.unusedVariables false
set_option linter.unusedSimpArgs false
open Go.RowKit Go.Shelf Go.Proofs
attribute [local go_sem ↓] Go.wp_at_zero Go.wp_at_succ
attribute [local go_sem] max2_int min2_int max_two min_two

theorem fromIntP_c (n : Int) (w : World) (h0 : -9223372036854775808 ≤ n) (h1 : n ≤ 9223372036854775807) (ht : P10 w) : Calls Tryz.prog 82 #[.int .i64 n] w fun e w' => e = .returned (.string ⟨(Lib.itoa n).toArray⟩) ∧ Below w.heap.size w w' := by
  have HI := Lib.hid (itoaR_c n w h0 h1 ht)
  clear ht
  go_enter Tryz.func82, Tryz.ntmps82
  go_wp2_with (go_at_call 99; (with_reducible refine HI.out.mono ?_); rintro e w' ⟨rfl, hb⟩; have HB := Lib.hid hb; clear hb)
  go_ret
  exact ⟨rfl, HB.out⟩

theorem itoa_zeros {m : Int} (h : m ≠ 0) (e : Nat) : Lib.itoa m ++ Lib.repeatL [48] e = Lib.itoa (m * 10 ^ e) := by
  have hp : (0 : Int) < 10 ^ e := Int.pow_pos (by decide)
  have hd : ∀ v : Nat, 0 < v → Lib.decDigits (v * 10 ^ e) = Lib.decDigits v ++ Lib.repeatL [48] e := fun v hv => by
    have := decDigits_shift e 0 v hv (Nat.pow_pos (by decide))
    rw [Nat.zero_add, Nat.mul_comm, pad_zero] at this
    exact this
  unfold Lib.itoa
  by_cases h0 : m < 0
  · have h1 := Int.mul_neg_of_neg_of_pos h0 hp
    rw [if_pos h0, if_pos h1, show (m * 10 ^ e).natAbs = m.natAbs * 10 ^ e by rw [Int.natAbs_mul, Int.natAbs_pow]; rfl, hd _ (by omega)]
    rfl
  · have h1 := Int.mul_nonneg (Int.not_lt.1 h0) (Int.le_of_lt hp)
    rw [if_neg h0, if_neg (by omega)]
    have e1 : (m * 10 ^ e).toNat = m.toNat * 10 ^ e := by
      obtain ⟨k, rfl⟩ := Int.eq_ofNat_of_zero_le (Int.not_lt.1 h0)
      rw [show ((k : Int) * 10 ^ e) = ((k * 10 ^ e : Nat) : Int) by rw [Int.natCast_mul, Int.natCast_pow]; rfl]
      rfl
    rw [e1, hd _ (by omega)]
/-- A quotient, rounded down, by Go's operators. -/
theorem floor_by {m P : Int} (hP : 0 < P) : (if m.tmod P < 0 then m.tdiv P - 1 else m.tdiv P) = m.fdiv P := by
  have h1 := Int.mul_tdiv_add_tmod m P
  have h2 := Int.mul_fdiv_add_fmod m P
  have h3 := Int.fmod_nonneg_of_pos m hP
  have h4 := Int.fmod_lt_of_pos m hP
  have h5 : -P < m.tmod P ∧ m.tmod P < P := by
    have a := Int.tmod_lt_of_pos m hP
    have b := Int.tmod_lt_of_pos (-m) hP
    rw [Int.neg_tmod] at b
    omega
  generalize m.tdiv P = q at *
  generalize m.tmod P = r at *
  generalize m.fdiv P = f at *
  generalize m.fmod P = s at *
  have key : ∀ {a b : Int}, P * a < P * b + P → a ≤ b := by
    intro a b h
    have : P * a < P * (b + 1) := by rw [Int.mul_add, Int.mul_one]; exact h
    have := Int.lt_of_mul_lt_mul_left this (Int.le_of_lt hP)
    omega
  by_cases hr : r < 0
  · rw [if_pos hr]
    have a1 : f ≤ q - 1 := key (by rw [Int.mul_sub, Int.mul_one]; omega)
    have a2 : q - 1 ≤ f := key (by rw [Int.mul_sub, Int.mul_one]; omega)
    omega
  · rw [if_neg hr]
    have a1 : f ≤ q := key (by omega)
    have a2 : q ≤ f := key (by omega)
    omega
theorem floor_far {m : Int} {k : Nat} (h : m.natAbs < 10 ^ 12) (hk : 12 ≤ k) : m.fdiv (10 ^ 12) = m.fdiv (10 ^ k) := by
  have hp : (0 : Int) < 10 ^ 12 := by decide
  have hq : (0 : Int) < 10 ^ k := Int.pow_pos (by decide)
  have hle : (10 : Int) ^ 12 ≤ 10 ^ k := pow_mono' (b := 10) (by decide) hk
  have he : (10 : Int) ^ 12 = 1000000000000 := by decide
  have hn : (10 : Nat) ^ 12 = 1000000000000 := by decide
  rw [Int.fdiv_eq_ediv_of_nonneg _ (Int.le_of_lt hp), Int.fdiv_eq_ediv_of_nonneg _ (Int.le_of_lt hq)]
  by_cases h0 : m < 0
  · have e1 : ∀ P : Int, 1000000000000 ≤ P → m / P = -1 := by
      intro P hP
      have a := Int.ediv_mul_add_emod m P
      have b := Int.emod_nonneg m (show P ≠ 0 by omega)
      have c := Int.emod_lt_of_pos m (show 0 < P by omega)
      generalize m / P = q at *
      generalize m % P = r at *
      have q1 : q < 0 := by
        by_cases hq0 : q < 0
        · exact hq0
        · have := Int.mul_nonneg (Int.not_lt.1 hq0) (show 0 ≤ P by omega); omega
      have q2 : -2 < q := by
        by_cases hq0 : -2 < q
        · exact hq0
        · have := Int.mul_le_mul_of_nonneg_right (show q ≤ -2 by omega) (show 0 ≤ P by omega); omega
      omega
    rw [e1 _ (by omega), e1 _ (by omega)]
  · rw [Int.ediv_eq_zero_of_lt (by omega) (by omega), Int.ediv_eq_zero_of_lt (by omega) (by omega)]

/-- What Floor returns. -/
def floorR (m e : Int) : Value := if RV m.natAbs e then .tuple #[.string ⟨(Lib.itoa (floorV m e)).toArray⟩, .int .i64 0] else .tuple #[.string ⟨#[]⟩, .int .i64 1]

set_option maxRecDepth 100000 in
set_option maxHeartbeats 4000000 in
theorem floorR_c (m e : Int) (w : World) (h0 : -9223372036854775808 ≤ m) (h1 : m ≤ 9223372036854775807) (ht : P10 w) :
    Calls Tryz.prog 64 #[.agg #[.int .i64 m, .int .i64 e]] w fun en w' => en = .returned (floorR m e) ∧ Below w.heap.size w w' := by
  obtain ⟨W, hW, k0⟩ : ∃ W, w.alloc (.cells #[.int .i64 m, .int .i64 e] 23) = W ∧ W.heap[w.heap.size]? = some (.cells #[.int .i64 m, .int .i64 e] 23 (0, 0)) := ⟨_, rfl, heap_alloc_new _ _⟩
  have hbel : Below w.heap.size w W := by rw [← hW]; exact (Below.refl _ _).alloc (Nat.le_refl _) _
  have HBEL := Lib.hid hbel
  have HT := Lib.hid (ht.below hbel)
  obtain ⟨c0, c1⟩ := two_cells k0
  have HV := Lib.hid (fun w' => validR_c m e w' h0 h1)
  clear k0 hbel ht
  unfold floorR
  by_cases h : RV m.natAbs e
  rotate_left
  · rw [if_neg h]
    rw [show decide (RV m.natAbs e) = false from decide_eq_false h] at HV
    clear h
    go_enter Tryz.func64, Tryz.ntmps64
    go_wp2_with (go_at_call 33; (with_reducible refine (HV.out _).mono ?_); rintro en w2 ⟨rfl, hbz⟩; have HB := Lib.hid hbz; clear hbz)
    go_ret2
    exact ⟨rfl, belowT HBEL.out HB.out⟩
  rw [if_pos h]
  rw [show decide (RV m.natAbs e) = true from decide_eq_true h] at HV
  obtain ⟨x0, x1, x2⟩ := RV_abs h
  by_cases he : 0 ≤ e
  · have hfl : floorV m e = m * 10 ^ e.toNat := by unfold floorV; rw [if_pos he]
    rw [hfl]
    obtain ⟨k, rfl⟩ := Int.eq_ofNat_of_zero_le he
    rw [Int.toNat_natCast]
    have HFI := Lib.hid (fun w' ht => fromIntP_c m w' h0 h1 ht)
    by_cases hm : m = 0
    · subst hm
      have hs : Lib.itoa (0 * 10 ^ k) = Lib.itoa 0 := by rw [Int.zero_mul]
      rw [hs]
      clear h hfl hs x0
      go_enter Tryz.func64, Tryz.ntmps64
      go_wp2_with (first
        | (go_at_call 33; (with_reducible refine (HV.out _).mono ?_); rintro en w2 ⟨rfl, hbz⟩; have c0 := keep_cell hbz c0; have c1 := keep_cell hbz c1; have HB := Lib.hid hbz; clear hbz)
        | (go_at_call 82; (with_reducible refine (HFI.out _ (HT.out.below HB.out)).mono ?_); rintro en w3 ⟨rfl, hbz⟩; have c0 := keep_cell hbz c0; have c1 := keep_cell hbz c1; have HB := Lib.hid (belowT HB.out hbz); clear hbz))
      go_ret2
      exact ⟨rfl, belowT HBEL.out HB.out⟩
    · have HS := Lib.hid (itoa_zeros hm k)
      have hmb : (m != 0) = true := by simpa using hm
      have HRP := Lib.hid (fun w' => Tryz.strings_Repeat ⟨#[48]⟩ k w' (by omega) (by show 1 * k ≤ _; omega))
      have hl1 := Lib.itoa_length_le m (by omega) (by omega)
      obtain ⟨S1, hS1⟩ : ∃ S, (⟨(Lib.itoa m).toArray⟩ : ByteArray) = S := ⟨_, rfl⟩
      obtain ⟨S2, hS2⟩ : ∃ S, (⟨(Lib.repeatL (ByteArray.mk #[48]).data.toList k).toArray⟩ : ByteArray) = S := ⟨_, rfl⟩
      have hz1 : S1.size = (Lib.itoa m).length := by rw [← hS1]; simp [ByteArray.size]
      have hz2 : S2.size = k := by rw [← hS2]; simp [ByteArray.size, Lib.repeatL_length]
      obtain ⟨i, hi⟩ : ∃ i, (Lib.itoa m).length = i := ⟨_, rfl⟩
      rw [hi] at hz1 hl1
      obtain ⟨J, hJ, hsJ, hlJ⟩ := cat2 S1 S2 hz1 hz2
      have HJL : Hid (J = ⟨(Lib.itoa (m * 10 ^ k)).toArray⟩) := by
        show _ = _
        rw [← HS.out]
        have : J.data.toList = Lib.itoa m ++ Lib.repeatL [48] k := by rw [hlJ, ← hS1, ← hS2]
        cases J with
        | mk d => cases d; simp at this; rw [this]
      rw [hS1] at HFI
      rw [hS2] at HRP
      clear h hfl hm hi hS1 hS2 hlJ
      go_enter Tryz.func64, Tryz.ntmps64
      go_wp2_with (first
        | (go_at_call 33; (with_reducible refine (HV.out _).mono ?_); rintro en w2 ⟨rfl, hbz⟩; have c0 := keep_cell hbz c0; have c1 := keep_cell hbz c1; have HB := Lib.hid hbz; clear hbz)
        | (go_at_call 82; (with_reducible refine (HFI.out _ (HT.out.below HB.out)).mono ?_); rintro en w3 ⟨rfl, hbz⟩; have c0 := keep_cell hbz c0; have c1 := keep_cell hbz c1; have HB := Lib.hid (belowT HB.out hbz); clear hbz)
        | (go_at_call 101; (with_reducible refine (HRP.out _).mono ?_); rintro en w6 ⟨rfl, hbz⟩; have HB := Lib.hid (belowT HB.out hbz); clear hbz))
      go_ret2
      exact ⟨by rw [HJL.out]; rfl, belowT HBEL.out HB.out⟩
  · obtain ⟨K, hK⟩ : ∃ K : Nat, (if (12 : Int) < -e then 12 else -e) = (K : Int) := ⟨(if (12 : Int) < -e then 12 else -e).toNat, by split <;> omega⟩
    have hK12 : K ≤ 12 := by split at hK <;> omega
    have hfl : floorV m e = m.fdiv (10 ^ K) := by
      unfold floorV
      rw [if_neg he]
      by_cases h12 : (12 : Int) < -e
      · rw [if_pos h12] at hK
        obtain rfl : K = 12 := by omega
        exact (floor_far (by have : (10 : Nat) ^ 12 = 1000000000000 := by decide
                             omega) (by omega)).symm
      · rw [if_neg h12] at hK
        congr 2
        omega
    rw [hfl]
    have HBM := Lib.hid (fun P hP => @floor_by m P hP)
    clear hfl h
    go_enter Tryz.func64, Tryz.ntmps64
    go_wp2_with (go_at_call 33; (with_reducible refine (HV.out _).mono ?_); rintro en w2 ⟨rfl, hbz⟩; have c0 := keep_cell hbz c0; have c1 := keep_cell hbz c1; have HB := Lib.hid hbz; clear hbz)
    clear hK
    go_loopg [5, 29] K (fun g p i wr => ∃ (k : Nat) (P : Int), i = .int .i64 (k : Int) ∧ p = .int .i64 P ∧ k + g = K ∧ Hid (P = 10 ^ k) ∧ w2 = wr)
    case atStart => exact ⟨0, 1, rfl, rfl, by omega, rfl, rfl⟩
    case round =>
      obtain ⟨k, P, rfl, rfl, hkg, HP, rfl⟩ := hrel
      have hP0 : 0 < P := by rw [HP.out]; exact Int.pow_pos (by decide)
      by_cases hg : gk = 0
      · obtain rfl : k = K := by omega
        have hfl := HBM.out P hP0
        have hdm := Int.mul_tdiv_add_tmod m P
        have hnz : (P == 0) = false := by rw [beq_eq_false_iff_ne]; omega
        obtain ⟨q, hq⟩ : ∃ q, m.tdiv P = q := ⟨_, rfl⟩
        obtain ⟨r, hr⟩ : ∃ r, m.tmod P = r := ⟨_, rfl⟩
        have hqb : q.natAbs ≤ m.natAbs := by rw [← hq]; exact Int.natAbs_tdiv_le_natAbs m P
        have hrb : r.natAbs ≤ m.natAbs := by
          rw [← hr, Int.natAbs_tmod]; exact Nat.mod_le _ _
        rw [hq, hr] at hfl
        have HFL : Hid ((if r < 0 then q - 1 else q) = m.fdiv (10 ^ k)) := by rw [← HP.out]; exact hfl
        have q1 : -1000000000000 < q := by omega
        have q2 : q < 1000000000000 := by omega
        have r1 : -1000000000000 < r := by omega
        have r2 : r < 1000000000000 := by omega
        clear hfl hdm hqb hrb hg hkg
        by_cases hr0 : r < 0
        · have HF2 : Hid (q - 1 = m.fdiv (10 ^ k)) := by have := HFL.out; rw [if_pos hr0] at this; exact this
          have HFI := Lib.hid (fun w' ht => fromIntP_c (q - 1) w' (by omega) (by omega) ht)
          go_wp2_with (go_at_call 82; (with_reducible refine (HFI.out _ (HT.out.below HB.out)).mono ?_); rintro en w3 ⟨rfl, hbz⟩; have HB3 := Lib.hid (belowT HB.out hbz); clear hbz)
          go_ret2
          exact ⟨by rw [← HF2.out]; rfl, belowT HBEL.out HB3.out⟩
        · have HF2 : Hid (q = m.fdiv (10 ^ k)) := by have := HFL.out; rw [if_neg hr0] at this; exact this
          have HFI := Lib.hid (fun w' ht => fromIntP_c q w' (by omega) (by omega) ht)
          go_wp2_with (go_at_call 82; (with_reducible refine (HFI.out _ (HT.out.below HB.out)).mono ?_); rintro en w3 ⟨rfl, hbz⟩; have HB3 := Lib.hid (belowT HB.out hbz); clear hbz)
          go_ret2
          exact ⟨by rw [← HF2.out]; rfl, belowT HBEL.out HB3.out⟩
      · obtain ⟨g, rfl⟩ : ∃ g, gk = g + 1 := ⟨gk - 1, by omega⟩
        have hPb : P ≤ 100000000000 := by
          rw [HP.out]
          have := pow_mono' (b := 10) (by decide) (i := k) (j := 11) (by omega)
          exact this
        have hkl : (k : Int) < (K : Int) := by omega
        clear hg
        go_wp2_with fail
        go_roundg g
        case measure => omega
        case rel =>
          refine ⟨k + 1, P * 10, by go_num, rfl, by omega, ?_, rfl⟩
          show _ = _
          rw [HP.out, Int.pow_succ]
end Go.Proofs.YtekbfommnmikbaaGreatDoor
/- The law RealWholes: its walk. -/
namespace Go.Proofs.YtekbfommnmikbaaGreatDoor
set_option linter.unusedVariables false
set_option linter.unusedSimpArgs false
open Go.RowKit Go.Shelf Go.Proofs Go.Sort
attribute [local go_sem ↓] Go.wp_at_zero Go.wp_at_succ

end Go.Proofs.YtekbfommnmikbaaGreatDoor
/- The law RealOrder: its walk. -/
namespace Go.Proofs.YtekbfommnmikbaaGreatDoor
set_option linter.unusedVariables false
set_option linter.unusedSimpArgs false
open Go.RowKit Go.Shelf Go.Proofs Go.Sort
attribute [local go_sem ↓] Go.wp_at_zero Go.wp_at_succ

theorem floor_num {m e : Int} (h : RV m.natAbs e) : NumL (⟨(Lib.itoa (floorV m e)).toArray⟩ : ByteArray).data.toList (floorV m e) := by
  refine ⟨by simp, ?_⟩
  have he := RV_exp h
  have hm : m.natAbs < 1000000000000 := by unfold RV at h; omega
  have big : (1000000000000 : Nat) * 10 ^ 88 ≤ 10 ^ 200 := by
    have : (1000000000000 : Nat) = 10 ^ 12 := rfl
    rw [this, ← Nat.pow_add]
    exact Nat.pow_le_pow_right (by decide) (by decide)
  have one : 1 ≤ 10 ^ 88 := Nat.pow_pos (by decide)
  unfold floorV
  by_cases h0 : 0 ≤ e
  · rw [if_pos h0]
    have e1 : (m * 10 ^ e.toNat).natAbs = m.natAbs * 10 ^ e.toNat := by rw [Int.natAbs_mul, Int.natAbs_pow]; rfl
    rw [e1]
    have h1 : (10 : Nat) ^ e.toNat ≤ 10 ^ 88 := Nat.pow_le_pow_right (by decide) (by omega)
    have h2 := Nat.mul_le_mul_left m.natAbs h1
    have h3 : m.natAbs * 10 ^ 88 < 1000000000000 * 10 ^ 88 := Nat.mul_lt_mul_of_pos_right hm one
    omega
  · rw [if_neg h0]
    have hq : (0 : Int) < 10 ^ (-e).toNat := Int.pow_pos (by decide)
    rw [Int.fdiv_eq_ediv_of_nonneg _ (Int.le_of_lt hq)]
    have h1 := Int.mul_ediv_add_emod m (10 ^ (-e).toNat)
    have h2 := Int.emod_nonneg m (Int.ne_of_gt hq)
    have h3 := Int.emod_lt_of_pos m hq
    have h4 : (m / 10 ^ (-e).toNat).natAbs ≤ m.natAbs := Int.natAbs_ediv_le_natAbs _ _
    have h5 : 1000000000000 * 1 ≤ 1000000000000 * 10 ^ 88 := Nat.mul_le_mul_left _ one
    omega
theorem sgn_le {x y : Int} (h : x ≤ y) : sgn (x + -y) ≤ 0 := by
  unfold sgn; split
  · decide
  · split
    · omega
    · decide
theorem order_put {w : World} {B : Nat} {x y : Value} {t : TypeId} (a b : Value) (h : w.heap[B]? = some (.cells #[x, y] t (0, 0))) :
    ∃ F, ((w.setCell ⟨B, 0, none⟩ a).setCell ⟨B, 1, none⟩ b) = F ∧ F.heap[B]? = some (.cells #[a, b] t (0, 0)) ∧ (∀ g, g ≠ B → F.heap[g]? = w.heap[g]?) ∧ (∀ k w0, k ≤ B → Below k w0 w → Below k w0 F) :=
  ⟨_, rfl, putB (putB h 0 a) 1 b, fun g hg => by rw [Below.heap_setCell _ _ _ _ hg, Below.heap_setCell _ _ _ _ hg], fun k w0 hk hb => (hb.setCell (p := ⟨B, 0, none⟩) hk _).setCell (p := ⟨B, 1, none⟩) hk _⟩
set_option maxRecDepth 100000 in
set_option maxHeartbeats 2000000 in
theorem both_c (a b er a' b' er' : Int) (w : World) (h : BothP a b er a' b' er') :
    Calls Tryz.prog 70 #[.agg #[.int .i64 a, .int .i64 b], .int .i64 er, .agg #[.int .i64 a', .int .i64 b'], .int .i64 er'] w fun en w' => en = .returned (.bool true) ∧ Below w.heap.size w w' := by
  obtain ⟨W, hW, k0, k1, hbel, hsz⟩ := bx2h w #[.int .i64 a, .int .i64 b] #[.int .i64 a', .int .i64 b'] 23 23
  obtain ⟨c0, c1⟩ := two_cells k0
  obtain ⟨z0, z1⟩ := two_cells k1
  have HBEL := Lib.hid hbel
  clear k0 k1 hbel hsz
  by_cases h0 : er = 0
  · by_cases h1 : er' = 0
    · subst h0 h1
      obtain ⟨hv, hv', hle⟩ : RV a.natAbs b ∧ RV a'.natAbs b' ∧ plR a b ≤ plR a' b' := by
        rcases h with h | h | h
        · exact absurd rfl h
        · exact absurd rfl h
        · exact h
      have HC := Lib.hid (fun w' => cmpR_c a b a' b' w' (by unfold RV at hv; omega) (by unfold RV at hv; omega) (by unfold RV at hv'; omega) (by unfold RV at hv'; omega))
      rw [if_pos ⟨hv', hv⟩] at HC
      obtain ⟨c, hc⟩ : ∃ c, max (-1) (min (plR a b - plR a' b') 1) = c := ⟨_, rfl⟩
      rw [hc] at HC
      have hc0 : c ≤ 0 := by omega
      clear hv hv' hle hc h
      go_enter Tryz.func70, Tryz.ntmps70
      go_wp2_with (go_at_call 42; (with_reducible refine (HC.out _).mono ?_); rintro en w2 ⟨rfl, hbz⟩; have HB := Lib.hid hbz; clear hbz)
      go_ret
      exact ⟨by first | rfl | simp [hc0], belowT HBEL.out HB.out⟩
    · subst h0
      clear h
      go_enter Tryz.func70, Tryz.ntmps70
      go_wp2_with fail
      go_ret
      exact ⟨rfl, HBEL.out⟩
  · clear h
    go_enter Tryz.func70, Tryz.ntmps70
    go_wp2_with fail
    go_ret
    exact ⟨rfl, HBEL.out⟩
set_option maxRecDepth 100000 in
set_option maxHeartbeats 32000000 in
theorem order_walk (xm xe ym ye zm ze n : Int) (w : World) (ht : P10 w) (htb : Tabs w) (hx0 : -9223372036854775808 ≤ xm) (hx1 : xm ≤ 9223372036854775807) (hy0 : -9223372036854775808 ≤ ym) (hy1 : ym ≤ 9223372036854775807) (hz0 : -9223372036854775808 ≤ zm) (hz1 : zm ≤ 9223372036854775807) :
    Calls Tryz.prog 15 #[.agg #[.int .i64 xm, .int .i64 xe], .agg #[.int .i64 ym, .int .i64 ye], .agg #[.int .i64 zm, .int .i64 ze], .int .i64 n] w fun en w' => en = .returned (.bool true) ∧ Below w.heap.size w w' := by
  obtain ⟨W, hW, k0, k1, k2, hbel⟩ := bx3h w #[.int .i64 xm, .int .i64 xe] #[.int .i64 ym, .int .i64 ye] #[.int .i64 zm, .int .i64 ze] 23 23 23
  have hsz : W.heap.size = w.heap.size + 3 := by rw [← hW]; simp
  have HBEL := Lib.hid hbel
  have HT := Lib.hid (ht.below hbel)
  have HTB := Lib.hid (htb.below hbel)
  have HX := Lib.hid k0; have HY := Lib.hid k1; have HZ := Lib.hid k2
  obtain ⟨c0, c1⟩ := two_cells k0
  obtain ⟨d0, d1⟩ := two_cells k1
  obtain ⟨z0, z1⟩ := two_cells k2
  have HSAN : Hid (∀ w' : World, P10 w' → Calls Tryz.prog 25 #[] w' fun e w2 => e = .returned (.bool true) ∧ Below w'.heap.size w' w2) := sanityR_c
  have HVX := Lib.hid (fun w' => validR_c xm xe w' hx0 hx1)
  have HVY := Lib.hid (fun w' => validR_c ym ye w' hy0 hy1)
  have HVZ := Lib.hid (fun w' => validR_c zm ze w' hz0 hz1)
  clear k0 k1 k2 hbel
  by_cases hx : RV xm.natAbs xe
  rotate_left
  · rw [show decide (RV xm.natAbs xe) = false from decide_eq_false hx] at HVX
    clear hx
    go_enter Tryz.func15, Tryz.ntmps15
    go_wp2_with (first
      | (go_at_call 33; (with_reducible refine (HVX.out _).mono ?_); rintro en w2 ⟨rfl, hbz⟩; have c0 := keep_cell hbz c0; have c1 := keep_cell hbz c1; have d0 := keep_cell hbz d0; have d1 := keep_cell hbz d1; have z0 := keep_cell hbz z0; have z1 := keep_cell hbz z1; have HB := Lib.hid hbz; clear hbz)
      | (go_at_call 33; (with_reducible refine (HVY.out _).mono ?_); rintro en w3 ⟨rfl, hbz⟩; have c0 := keep_cell hbz c0; have c1 := keep_cell hbz c1; have d0 := keep_cell hbz d0; have d1 := keep_cell hbz d1; have z0 := keep_cell hbz z0; have z1 := keep_cell hbz z1; have HB := Lib.hid (belowT HB.out hbz); clear hbz)
      | (go_at_call 33; (with_reducible refine (HVZ.out _).mono ?_); rintro en w4 ⟨rfl, hbz⟩; have c0 := keep_cell hbz c0; have c1 := keep_cell hbz c1; have d0 := keep_cell hbz d0; have d1 := keep_cell hbz d1; have z0 := keep_cell hbz z0; have z1 := keep_cell hbz z1; have HB := Lib.hid (belowT HB.out hbz); clear hbz)
      | (go_at_call 25; (with_reducible refine (HSAN.out _ (HT.out.below HB.out)).mono ?_); rintro en w5 ⟨rfl, hbz⟩; have c0 := keep_cell hbz c0; have c1 := keep_cell hbz c1; have d0 := keep_cell hbz d0; have d1 := keep_cell hbz d1; have z0 := keep_cell hbz z0; have z1 := keep_cell hbz z1; have HB := Lib.hid (belowT HB.out hbz); clear hbz))
    go_ret
    exact ⟨rfl, belowT HBEL.out HB.out⟩
  rw [show decide (RV xm.natAbs xe) = true from decide_eq_true hx] at HVX
  by_cases hy : RV ym.natAbs ye
  rotate_left
  · rw [show decide (RV ym.natAbs ye) = false from decide_eq_false hy] at HVY
    clear hy hx
    go_enter Tryz.func15, Tryz.ntmps15
    go_wp2_with (first
      | (go_at_call 33; (with_reducible refine (HVX.out _).mono ?_); rintro en w2 ⟨rfl, hbz⟩; have c0 := keep_cell hbz c0; have c1 := keep_cell hbz c1; have d0 := keep_cell hbz d0; have d1 := keep_cell hbz d1; have z0 := keep_cell hbz z0; have z1 := keep_cell hbz z1; have HB := Lib.hid hbz; clear hbz)
      | (go_at_call 33; (with_reducible refine (HVY.out _).mono ?_); rintro en w3 ⟨rfl, hbz⟩; have c0 := keep_cell hbz c0; have c1 := keep_cell hbz c1; have d0 := keep_cell hbz d0; have d1 := keep_cell hbz d1; have z0 := keep_cell hbz z0; have z1 := keep_cell hbz z1; have HB := Lib.hid (belowT HB.out hbz); clear hbz)
      | (go_at_call 33; (with_reducible refine (HVZ.out _).mono ?_); rintro en w4 ⟨rfl, hbz⟩; have c0 := keep_cell hbz c0; have c1 := keep_cell hbz c1; have d0 := keep_cell hbz d0; have d1 := keep_cell hbz d1; have z0 := keep_cell hbz z0; have z1 := keep_cell hbz z1; have HB := Lib.hid (belowT HB.out hbz); clear hbz)
      | (go_at_call 25; (with_reducible refine (HSAN.out _ (HT.out.below HB.out)).mono ?_); rintro en w5 ⟨rfl, hbz⟩; have c0 := keep_cell hbz c0; have c1 := keep_cell hbz c1; have d0 := keep_cell hbz d0; have d1 := keep_cell hbz d1; have z0 := keep_cell hbz z0; have z1 := keep_cell hbz z1; have HB := Lib.hid (belowT HB.out hbz); clear hbz))
    go_ret
    exact ⟨rfl, belowT HBEL.out HB.out⟩
  rw [show decide (RV ym.natAbs ye) = true from decide_eq_true hy] at HVY
  by_cases hz : RV zm.natAbs ze
  rotate_left
  · rw [show decide (RV zm.natAbs ze) = false from decide_eq_false hz] at HVZ
    clear hz hx hy
    go_enter Tryz.func15, Tryz.ntmps15
    go_wp2_with (first
      | (go_at_call 33; (with_reducible refine (HVX.out _).mono ?_); rintro en w2 ⟨rfl, hbz⟩; have c0 := keep_cell hbz c0; have c1 := keep_cell hbz c1; have d0 := keep_cell hbz d0; have d1 := keep_cell hbz d1; have z0 := keep_cell hbz z0; have z1 := keep_cell hbz z1; have HB := Lib.hid hbz; clear hbz)
      | (go_at_call 33; (with_reducible refine (HVY.out _).mono ?_); rintro en w3 ⟨rfl, hbz⟩; have c0 := keep_cell hbz c0; have c1 := keep_cell hbz c1; have d0 := keep_cell hbz d0; have d1 := keep_cell hbz d1; have z0 := keep_cell hbz z0; have z1 := keep_cell hbz z1; have HB := Lib.hid (belowT HB.out hbz); clear hbz)
      | (go_at_call 33; (with_reducible refine (HVZ.out _).mono ?_); rintro en w4 ⟨rfl, hbz⟩; have c0 := keep_cell hbz c0; have c1 := keep_cell hbz c1; have d0 := keep_cell hbz d0; have d1 := keep_cell hbz d1; have z0 := keep_cell hbz z0; have z1 := keep_cell hbz z1; have HB := Lib.hid (belowT HB.out hbz); clear hbz)
      | (go_at_call 25; (with_reducible refine (HSAN.out _ (HT.out.below HB.out)).mono ?_); rintro en w5 ⟨rfl, hbz⟩; have c0 := keep_cell hbz c0; have c1 := keep_cell hbz c1; have d0 := keep_cell hbz d0; have d1 := keep_cell hbz d1; have z0 := keep_cell hbz z0; have z1 := keep_cell hbz z1; have HB := Lib.hid (belowT HB.out hbz); clear hbz))
    go_ret
    exact ⟨rfl, belowT HBEL.out HB.out⟩
  rw [show decide (RV zm.natAbs ze) = true from decide_eq_true hz] at HVZ
  have HC1 := Lib.hid (fun w' => cmpR_c xm xe ym ye w' hx0 hx1 hy0 hy1)
  rw [if_pos ⟨hy, hx⟩] at HC1
  have HC2 := Lib.hid (fun w' => cmpR_c ym ye xm xe w' hy0 hy1 hx0 hx1)
  rw [if_pos ⟨hx, hy⟩] at HC2
  have HST := Lib.hid (fun w' => steps_c xm xe ym ye w' hx0 hx1 hy0 hy1)
  rw [if_pos ⟨hx, hy⟩] at HST
  obtain ⟨c, hc⟩ : ∃ c, max (-1) (min (plR xm xe - plR ym ye) 1) = c := ⟨_, rfl⟩
  obtain ⟨d, hd⟩ : ∃ c, max (-1) (min (plR ym ye - plR xm xe) 1) = c := ⟨_, rfl⟩
  obtain ⟨k, hk⟩ : ∃ c, plR ym ye - plR xm xe = c := ⟨_, rfl⟩
  rw [hc] at HC1
  rw [hd] at HC2
  rw [hk] at HST
  have hinj : plR xm xe = plR ym ye → xm = ym ∧ xe = ye := plR_inj hx hy
  have HCD : Hid ((plR xm xe < plR ym ye ∧ c = -1 ∧ d = 1 ∧ 0 < k ∧ ¬ (xm = ym ∧ xe = ye)) ∨ ((xm = ym ∧ xe = ye) ∧ c = 0 ∧ d = 0 ∧ k = 0) ∨ (plR ym ye < plR xm xe ∧ c = 1 ∧ d = -1 ∧ k < 0 ∧ ¬ (xm = ym ∧ xe = ye))) := by
    show _ ∨ _
    rcases Int.lt_trichotomy (plR xm xe) (plR ym ye) with h | h | h
    · exact .inl ⟨h, by omega, by omega, by omega, fun ⟨e1, e2⟩ => by rw [e1, e2] at h; omega⟩
    · exact .inr (.inl ⟨hinj h, by omega, by omega, by omega⟩)
    · exact .inr (.inr ⟨h, by omega, by omega, by omega, fun ⟨e1, e2⟩ => by rw [e1, e2] at h; omega⟩)
  have HRX := Lib.hid hx; have HRY := Lib.hid hy; have HRZ := Lib.hid hz
  clear hc hd hk hinj hx hy hz
  go_enter Tryz.func15, Tryz.ntmps15
  go_upto_region 6 with (first
    | (go_at_call 33; (with_reducible refine (HVX.out _).mono ?_); rintro en w2 ⟨rfl, hbz⟩; have c0 := keep_cell hbz c0; have c1 := keep_cell hbz c1; have d0 := keep_cell hbz d0; have d1 := keep_cell hbz d1; have z0 := keep_cell hbz z0; have z1 := keep_cell hbz z1; have HB := Lib.hid hbz; clear hbz)
    | (go_at_call 33; (with_reducible refine (HVY.out _).mono ?_); rintro en w3 ⟨rfl, hbz⟩; have c0 := keep_cell hbz c0; have c1 := keep_cell hbz c1; have d0 := keep_cell hbz d0; have d1 := keep_cell hbz d1; have z0 := keep_cell hbz z0; have z1 := keep_cell hbz z1; have HB := Lib.hid (belowT HB.out hbz); clear hbz)
    | (go_at_call 33; (with_reducible refine (HVZ.out _).mono ?_); rintro en w4 ⟨rfl, hbz⟩; have c0 := keep_cell hbz c0; have c1 := keep_cell hbz c1; have d0 := keep_cell hbz d0; have d1 := keep_cell hbz d1; have z0 := keep_cell hbz z0; have z1 := keep_cell hbz z1; have HB := Lib.hid (belowT HB.out hbz); clear hbz)
    | (go_at_call 42; (with_reducible refine (HC1.out _).mono ?_); rintro en w5 ⟨rfl, hbz⟩; have c0 := keep_cell hbz c0; have c1 := keep_cell hbz c1; have d0 := keep_cell hbz d0; have d1 := keep_cell hbz d1; have z0 := keep_cell hbz z0; have z1 := keep_cell hbz z1; have HB := Lib.hid (belowT HB.out hbz); clear hbz)
    | (go_at_call 42; (with_reducible refine (HC2.out _).mono ?_); rintro en w6 ⟨rfl, hbz⟩; have c0 := keep_cell hbz c0; have c1 := keep_cell hbz c1; have d0 := keep_cell hbz d0; have d1 := keep_cell hbz d1; have z0 := keep_cell hbz z0; have z1 := keep_cell hbz z1; have HB := Lib.hid (belowT HB.out hbz); clear hbz)
    | (go_at_call 57; (with_reducible refine (HST.out _).mono ?_); rintro en ZA ⟨rfl, hbz⟩; have c0 := keep_cell hbz c0; have c1 := keep_cell hbz c1; have d0 := keep_cell hbz d0; have d1 := keep_cell hbz d1; have z0 := keep_cell hbz z0; have z1 := keep_cell hbz z1; have HB := Lib.hid (belowT HB.out hbz); clear hbz))
  go_cut [86] from 56 to 86 (fun v wx => v = .bool false ∧ wx = ZA)
  case first =>
    rcases HCD.out with ⟨-, rfl, rfl, hk, hne⟩ | ⟨⟨he1, he2⟩, rfl, rfl, rfl⟩ | ⟨-, rfl, rfl, hk, hne⟩
    · by_cases hm : xm = ym
      · have hn2 : ¬ xe = ye := fun h => hne ⟨hm, h⟩
        rw [← hm] at d0
        clear hm hne
        go_wp2_with fail
        go_meet
        exact ⟨by first | rfl | simp [hn2], rfl⟩
      · clear hne
        go_wp2_with fail
        go_meet
        exact ⟨by first | rfl | simp [hm], rfl⟩
    · rw [← he1] at d0; rw [← he2] at d1
      clear he1 he2
      go_wp2_with fail
      go_meet
      exact ⟨rfl, rfl⟩
    · have hk' : ¬ 0 < k := by omega
      by_cases hm : xm = ym
      · have hn2 : ¬ xe = ye := fun h => hne ⟨hm, h⟩
        rw [← hm] at d0
        clear hm hne
        go_wp2_with fail
        go_meet
        exact ⟨by first | rfl | simp [hn2], rfl⟩
      · clear hne
        go_wp2_with fail
        go_meet
        exact ⟨by first | rfl | simp [hm], rfl⟩
  obtain ⟨rfl, hT⟩ := hcut
  rw [hT]
  clear hT
  have HX := Lib.hid (heapB HB.out HX.out); have HY := Lib.hid (heapB HB.out HY.out); have HZ := Lib.hid (heapB HB.out HZ.out)
  go_upto_if 88 with fail
  clear HVX HVY HVZ HC1 HC2 HST
  go_cut [89, 90] from 88 to 88 (fun v1 v2 wx => ∃ um ue vm ve : Int, Hid (RV um.natAbs ue) ∧ Hid (RV vm.natAbs ve) ∧ Hid (plR um ue ≤ plR vm ve) ∧ Hid (Below w.heap.size w wx) ∧ Hid (P10 wx) ∧ Hid (Tabs wx) ∧ W.heap.size ≤ wx.heap.size ∧ Hid (wx.heap[w.heap.size]? = some (.cells #[.int .i64 um, .int .i64 ue] 23 (0, 0))) ∧ Hid (wx.heap[w.heap.size + 1]? = some (.cells #[.int .i64 vm, .int .i64 ve] 23 (0, 0))) ∧ Hid (wx.heap[w.heap.size + 2]? = some (.cells #[.int .i64 zm, .int .i64 ze] 23 (0, 0))))
  case first =>
    rcases HCD.out with ⟨hlt, rfl, rfl, hk, hne⟩ | ⟨⟨he1, he2⟩, rfl, rfl, rfl⟩ | ⟨hlt, rfl, rfl, hk, hne⟩
    · clear hne hk
      go_wp2_with fail
      go_meet
      exact ⟨xm, xe, ym, ye, HRX.out, HRY.out, Int.le_of_lt hlt, belowT HBEL.out HB.out, HT.out.below HB.out, HTB.out.below HB.out, HB.out.size, HX.out, HY.out, HZ.out⟩
    · have hle : plR xm xe ≤ plR ym ye := by rw [he1, he2]; exact Int.le_refl _
      clear he1 he2
      go_wp2_with fail
      go_meet
      exact ⟨xm, xe, ym, ye, HRX.out, HRY.out, hle, belowT HBEL.out HB.out, HT.out.below HB.out, HTB.out.below HB.out, HB.out.size, HX.out, HY.out, HZ.out⟩
    · clear hne hk
      obtain ⟨F, hF, hFh, hFo, hFb⟩ := order_put (.int .i64 ym) (.int .i64 ye) HX.out
      have hFy := (hFo (w.heap.size + 1) (by omega)).trans HY.out
      have hFz := (hFo (w.heap.size + 2) (by omega)).trans HZ.out
      obtain ⟨G, hG, hGh, hGo, hGb⟩ := order_put (.int .i64 xm) (.int .i64 xe) hFy
      have x0 := free_of_heap HX.out 0; have x1 := free_of_heap HX.out 1
      have y0 := free_of_heap hFy 0; have y1 := free_of_heap hFy 1
      obtain ⟨s0, s1⟩ := two_cells hFy
      rw [← hF] at y0 y1 s0 s1
      have HFX := Lib.hid ((hGo w.heap.size (by omega)).trans hFh)
      have HFY := Lib.hid hGh
      have HFZ := Lib.hid ((hGo (w.heap.size + 2) (by omega)).trans hFz)
      have HGB := Lib.hid (hGb w.heap.size w (by omega) (hFb w.heap.size w (Nat.le_refl _) (belowT HBEL.out HB.out)))
      have HGT : Hid (P10 G ∧ Tabs G) := ⟨ht.below HGB.out, htb.below HGB.out⟩
      have hgs : W.heap.size ≤ G.heap.size := by rw [← hG, ← hF]; simpa using HB.out.size
      rw [← hF] at hG
      have HG := Lib.hid hG
      clear hFh hFo hFb hFy hFz hGh hGo hGb hF hG
      go_wp2_with fail
      go_meet
      rw [HG.out]
      exact ⟨ym, ye, xm, xe, HRY.out, HRX.out, Int.le_of_lt hlt, HGB.out, HGT.out.1, HGT.out.2, hgs, HFX.out, HFY.out, HFZ.out⟩
  obtain ⟨um, ue, vm, ve, HRU, HRW, HLE, HBA, HPA, HTA, hsw, HX, HY, HZ⟩ := hcut
  obtain ⟨A, hA⟩ : ∃ A, wc = A := ⟨_, rfl⟩
  rw [hA] at HBA HPA HTA hsw HX HY HZ ⊢
  clear hA HCD HRX HRY HB c0 c1 d0 d1 z0 z1 hx0 hx1 hy0 hy1 HBEL HT HTB
  have ub : -9223372036854775808 ≤ um ∧ um ≤ 9223372036854775807 := by have := HRU.out; unfold RV at this; omega
  have vb : -9223372036854775808 ≤ vm ∧ vm ≤ 9223372036854775807 := by have := HRW.out; unfold RV at this; omega
  have HC1 := Lib.hid (fun w' => cmpR_c um ue zm ze w' ub.1 ub.2 hz0 hz1)
  rw [if_pos ⟨HRZ.out, HRU.out⟩] at HC1
  have HC2 := Lib.hid (fun w' => cmpR_c vm ve zm ze w' vb.1 vb.2 hz0 hz1)
  rw [if_pos ⟨HRZ.out, HRW.out⟩] at HC2
  obtain ⟨c1', hc1⟩ : ∃ c, max (-1) (min (plR um ue - plR zm ze) 1) = c := ⟨_, rfl⟩
  obtain ⟨c2', hc2⟩ : ∃ c, max (-1) (min (plR vm ve - plR zm ze) 1) = c := ⟨_, rfl⟩
  rw [hc1] at HC1
  rw [hc2] at HC2
  have HCC : Hid (c2' ≤ 0 → ¬ 0 < c1') := by
    have := HLE.out
    intro _
    omega
  have HAD1 := Lib.hid (fun w' => addX_c um ue zm ze w' ub.1 ub.2 hz0 hz1)
  have HAD2 := Lib.hid (fun w' => addX_c vm ve zm ze w' vb.1 vb.2 hz0 hz1)
  obtain ⟨a1, a2, a3, b1, b2, b3, hv1, hv2, hbb⟩ := add_both HRU.out HRW.out HRZ.out HLE.out
  rw [hv1] at HAD1
  rw [hv2] at HAD2
  have HBO := Lib.hid (fun w' => both_c a1 a2 a3 b1 b2 b3 w' hbb)
  clear hc1 hc2 hv1 hv2 hbb
  obtain ⟨c0, c1⟩ := two_cells HX.out
  obtain ⟨d0, d1⟩ := two_cells HY.out
  obtain ⟨z0, z1⟩ := two_cells HZ.out
  go_upto_region 12 with (first
    | (go_at_call 42; (with_reducible refine (HC1.out _).mono ?_); rintro en w7 ⟨rfl, hbz⟩; have HX := Lib.hid (heapB hbz HX.out); have HY := Lib.hid (heapB hbz HY.out); have HZ := Lib.hid (heapB hbz HZ.out); obtain ⟨c0, c1⟩ := two_cells HX.out; obtain ⟨d0, d1⟩ := two_cells HY.out; obtain ⟨z0, z1⟩ := two_cells HZ.out; have HB := Lib.hid hbz; clear hbz)
    | (go_at_call 42; (with_reducible refine (HC2.out _).mono ?_); rintro en ZB ⟨rfl, hbz⟩; have HX := Lib.hid (heapB hbz HX.out); have HY := Lib.hid (heapB hbz HY.out); have HZ := Lib.hid (heapB hbz HZ.out); obtain ⟨c0, c1⟩ := two_cells HX.out; obtain ⟨d0, d1⟩ := two_cells HY.out; obtain ⟨z0, z1⟩ := two_cells HZ.out; have HB := Lib.hid (belowT HB.out hbz); clear hbz))
  clear HC1 HC2
  go_cut [108] from 103 to 108 (fun v wx => v = .bool false ∧ wx = ZB)
  case first =>
    by_cases h1 : c2' ≤ 0
    · have h2 := HCC.out h1
      go_wp2_with fail
      go_meet
      exact ⟨by first | rfl | simp [h2], rfl⟩
    · go_wp2_with fail
      go_meet
      exact ⟨rfl, rfl⟩
  obtain ⟨rfl, hT⟩ := hcut
  rw [hT]
  clear hT HCC
  have Ac0 := fun o => keep_cell ((Below.refl ZB.heap.size ZB).alloc (Nat.le_refl _) o) c0
  go_upto_region 18 with (first
    | (go_at_call 34; (with_reducible refine (HAD1.out _).mono ?_); rintro en w8 ⟨rfl, hbz⟩; have HX := Lib.hid (heapB hbz HX.out); have HY := Lib.hid (heapB hbz HY.out); have HZ := Lib.hid (heapB hbz HZ.out); obtain ⟨c0, c1⟩ := two_cells HX.out; obtain ⟨d0, d1⟩ := two_cells HY.out; obtain ⟨z0, z1⟩ := two_cells HZ.out; have Ac0 := fun o => keep_cell ((Below.refl _ _).alloc (Nat.le_refl _) o) c0; have Ac1 := fun o => keep_cell ((Below.refl _ _).alloc (Nat.le_refl _) o) c1; have Ad0 := fun o => keep_cell ((Below.refl _ _).alloc (Nat.le_refl _) o) d0; have Ad1 := fun o => keep_cell ((Below.refl _ _).alloc (Nat.le_refl _) o) d1; have Az0 := fun o => keep_cell ((Below.refl _ _).alloc (Nat.le_refl _) o) z0; have Az1 := fun o => keep_cell ((Below.refl _ _).alloc (Nat.le_refl _) o) z1; have HB := Lib.hid (belowT HB.out hbz); have h8 := HB.out.size; clear hbz)
    | (go_at_call 34; (with_reducible refine (HAD2.out _).mono ?_); rintro en w9 ⟨rfl, hbz⟩; have HX := Lib.hid (heapB hbz (heap_old _ HX.out)); have HY := Lib.hid (heapB hbz (heap_old _ HY.out)); have HZ := Lib.hid (heapB hbz (heap_old _ HZ.out)); have HA := Lib.hid (heapB hbz (heap_alloc_new _ _)); have h89 := hbz.size; simp only [World.size_alloc] at h89; obtain ⟨c0, c1⟩ := two_cells HX.out; obtain ⟨d0, d1⟩ := two_cells HY.out; obtain ⟨z0, z1⟩ := two_cells HZ.out; obtain ⟨p0, p1⟩ := two_cells HA.out; have Ap0 := fun o => keep_cell ((Below.refl _ _).alloc (Nat.le_refl _) o) p0; have Ap1 := fun o => keep_cell ((Below.refl _ _).alloc (Nat.le_refl _) o) p1; have Ac0 := fun o => keep_cell ((Below.refl _ _).alloc (Nat.le_refl _) o) c0; have Ac1 := fun o => keep_cell ((Below.refl _ _).alloc (Nat.le_refl _) o) c1; have Ad0 := fun o => keep_cell ((Below.refl _ _).alloc (Nat.le_refl _) o) d0; have Ad1 := fun o => keep_cell ((Below.refl _ _).alloc (Nat.le_refl _) o) d1; have Az0 := fun o => keep_cell ((Below.refl _ _).alloc (Nat.le_refl _) o) z0; have Az1 := fun o => keep_cell ((Below.refl _ _).alloc (Nat.le_refl _) o) z1; have HB := Lib.hid (belowT (belowA HB.out _) hbz); clear hbz)
    | (go_at_call 70; (with_reducible refine (HBO.out _).mono ?_); rintro en Z0 ⟨rfl, hbz⟩; have HX := Lib.hid (heapB hbz (heap_old _ HX.out)); have HY := Lib.hid (heapB hbz (heap_old _ HY.out)); have HZ := Lib.hid (heapB hbz (heap_old _ HZ.out)); have HA := Lib.hid (heapB hbz (heap_old _ HA.out)); have HE := Lib.hid (heapB hbz (heap_alloc_new _ _)); obtain ⟨c0, c1⟩ := two_cells HX.out; obtain ⟨d0, d1⟩ := two_cells HY.out; obtain ⟨z0, z1⟩ := two_cells HZ.out; have HB := Lib.hid (belowT (belowA HB.out _) hbz); clear hbz))
  obtain ⟨ga, hga⟩ : ∃ g, w8.heap.size = g := ⟨_, rfl⟩
  obtain ⟨gb, hgb⟩ : ∃ g, w9.heap.size = g := ⟨_, rfl⟩
  rw [hga] at HA h89 h8 ⊢
  rw [hgb] at HE h89 ⊢
  clear hga hgb HAD1 HAD2 HBO p0 p1 Ap0 Ap1 Ac0 Ac1 Ad0 Ad1 Az0 Az1
  obtain ⟨p1, p2, p3, q1, q2, q3, hv1, hv2, hsg⟩ : ∃ p1 p2 p3 q1 q2 q3 : Int, mulX um ue zm ze = .tuple #[.agg #[.int .i64 p1, .int .i64 p2], .int .i64 p3] ∧ mulX vm ve zm ze = .tuple #[.agg #[.int .i64 q1, .int .i64 q2], .int .i64 q3] ∧ ((0 ≤ zm ∧ BothP p1 p2 p3 q1 q2 q3) ∨ (zm < 0 ∧ BothP q1 q2 q3 p1 p2 p3)) := by
    by_cases hs : 0 ≤ zm
    · obtain ⟨p1, p2, p3, q1, q2, q3, h1, h2, h3⟩ := (mul_both HRU.out HRW.out HRZ.out HLE.out).1 hs
      exact ⟨p1, p2, p3, q1, q2, q3, h1, h2, .inl ⟨hs, h3⟩⟩
    · obtain ⟨q1, q2, q3, p1, p2, p3, h1, h2, h3⟩ := (mul_both HRU.out HRW.out HRZ.out HLE.out).2 (by omega)
      exact ⟨p1, p2, p3, q1, q2, q3, h2, h1, .inr ⟨by omega, h3⟩⟩
  have HF1 := Lib.hid (fun w' => mulX_c um ue zm ze w' ub.1 ub.2 hz0 hz1)
  have HF2 := Lib.hid (fun w' => mulX_c vm ve zm ze w' vb.1 vb.2 hz0 hz1)
  rw [hv1] at HF1
  rw [hv2] at HF2
  have HSG := Lib.hid hsg
  clear hv1 hv2 hsg
  obtain ⟨c0, c1⟩ := two_cells HX.out
  obtain ⟨d0, d1⟩ := two_cells HY.out
  obtain ⟨z0, z1⟩ := two_cells HZ.out
  go_upto_region 20 with (first
    | (go_at_call 46; (with_reducible refine (HF1.out _).mono ?_); rintro en w5 ⟨rfl, hbz⟩; obtain ⟨F, hF, hFa, hFo, hFb⟩ := order_put (.int .i64 p1) (.int .i64 p2) (heapB hbz HA.out); obtain ⟨m0, m1⟩ := two_cells (heapB hbz HA.out); have y0 := free_of_heap (heapB hbz HA.out) 0; have y1 := free_of_heap (heapB hbz HA.out) 1; have HX := Lib.hid ((hFo w.heap.size (by omega)).trans (heapB hbz HX.out)); have HY := Lib.hid ((hFo (w.heap.size + 1) (by omega)).trans (heapB hbz HY.out)); have HZ := Lib.hid ((hFo (w.heap.size + 2) (by omega)).trans (heapB hbz HZ.out)); have HE := Lib.hid ((hFo gb (by omega)).trans (heapB hbz HE.out)); have HB := Lib.hid (hFb A.heap.size A (by omega) (belowT HB.out hbz)); have HA := Lib.hid hFa; obtain ⟨d0, d1⟩ := two_cells HY.out; obtain ⟨z0, z1⟩ := two_cells HZ.out; rw [← hF] at d0 d1 z0 z1; have HFQ := Lib.hid hF; clear hbz hFa hFo hFb hF)
    | (go_at_call 46; (with_reducible refine (HF2.out _).mono ?_); rintro en w6 ⟨rfl, hbz⟩; rw [HFQ.out] at hbz; obtain ⟨G, hG, hGa, hGo, hGb⟩ := order_put (.int .i64 q1) (.int .i64 q2) (heapB hbz HE.out); obtain ⟨m0, m1⟩ := two_cells (heapB hbz HE.out); have y0 := free_of_heap (heapB hbz HE.out) 0; have y1 := free_of_heap (heapB hbz HE.out) 1; have HX := Lib.hid ((hGo w.heap.size (by omega)).trans (heapB hbz HX.out)); have HY := Lib.hid ((hGo (w.heap.size + 1) (by omega)).trans (heapB hbz HY.out)); have HZ := Lib.hid ((hGo (w.heap.size + 2) (by omega)).trans (heapB hbz HZ.out)); have HA := Lib.hid ((hGo ga (by omega)).trans (heapB hbz HA.out)); have HB := Lib.hid (hGb A.heap.size A (by omega) (belowT HB.out hbz)); have HE := Lib.hid hGa; obtain ⟨k0, k1⟩ := two_cells HA.out; obtain ⟨l0, l1⟩ := two_cells HE.out; obtain ⟨z0, z1⟩ := two_cells HZ.out; rw [← hG] at k0 k1 l0 l1 z0 z1; have HGQ := Lib.hid hG; clear hbz hGa hGo hGb hG))
  rw [HGQ.out]
  rw [HGQ.out] at k0 k1 l0 l1 z0 z1
  clear HF1 HF2 HFQ HGQ
  go_cut [162] from 139 to 162 (fun v wx => v = .bool false ∧ Hid (wx.heap[w.heap.size]? = some (.cells #[.int .i64 um, .int .i64 ue] 23 (0, 0))) ∧ Hid (wx.heap[w.heap.size + 1]? = some (.cells #[.int .i64 vm, .int .i64 ve] 23 (0, 0))) ∧ Hid (wx.heap[w.heap.size + 2]? = some (.cells #[.int .i64 zm, .int .i64 ze] 23 (0, 0))) ∧ Hid (wx.heap[ga]? = some (.cells #[.int .i64 p1, .int .i64 p2] 23 (0, 0))) ∧ Hid (wx.heap[gb]? = some (.cells #[.int .i64 q1, .int .i64 q2] 23 (0, 0))) ∧ Hid (Below A.heap.size A wx))
  case first =>
    rcases HSG.out with ⟨hs, hbb⟩ | ⟨hs, hbb⟩
    · have HBO := Lib.hid (fun w' => both_c _ _ _ _ _ _ w' hbb)
      have hs2 : ¬ zm < 0 := by omega
      clear hbb
      go_wp2_with (go_at_call 70; (with_reducible refine (HBO.out _).mono ?_); rintro en w7 ⟨rfl, hbz⟩; have HX := Lib.hid (heapB hbz HX.out); have HY := Lib.hid (heapB hbz HY.out); have HZ := Lib.hid (heapB hbz HZ.out); have HA := Lib.hid (heapB hbz HA.out); have HE := Lib.hid (heapB hbz HE.out); obtain ⟨z0, z1⟩ := two_cells HZ.out; have HB := Lib.hid (belowT HB.out hbz); clear hbz)
      go_meet
      exact ⟨by first | rfl | simp [hs] | simp [hs2], HX.out, HY.out, HZ.out, HA.out, HE.out, HB.out⟩
    · have HBO := Lib.hid (fun w' => both_c _ _ _ _ _ _ w' hbb)
      have hs2 : ¬ 0 ≤ zm := by omega
      clear hbb
      go_wp2_with (go_at_call 70; (with_reducible refine (HBO.out _).mono ?_); rintro en w7 ⟨rfl, hbz⟩; have HX := Lib.hid (heapB hbz HX.out); have HY := Lib.hid (heapB hbz HY.out); have HZ := Lib.hid (heapB hbz HZ.out); have HA := Lib.hid (heapB hbz HA.out); have HE := Lib.hid (heapB hbz HE.out); obtain ⟨z0, z1⟩ := two_cells HZ.out; have HB := Lib.hid (belowT HB.out hbz); clear hbz)
      go_meet
      exact ⟨by first | rfl | simp [hs] | simp [hs2], HX.out, HY.out, HZ.out, HA.out, HE.out, HB.out⟩
  obtain ⟨rfl, HX, HY, HZ, HA, HE, HB⟩ := hcut
  obtain ⟨Z1, hT⟩ : ∃ T, wc = T := ⟨_, rfl⟩
  rw [hT] at HX HY HZ HA HE HB ⊢
  clear hT HSG c0 c1 d0 d1 z0 z1 k0 k1 l0 l1
  go_upto_region 22 with fail
  have HF1 := Lib.hid (fun w' => scaleR_c um ue n w' ub.1 ub.2)
  have HF2 := Lib.hid (fun w' => scaleR_c vm ve n w' vb.1 vb.2)
  obtain ⟨p41, p42, p43, q41, q42, q43, hv1, hv2, hbb⟩ := scale_both (n := n) HRU.out HRW.out HLE.out
  rw [hv1] at HF1
  rw [hv2] at HF2
  have HBO := Lib.hid (fun w' => both_c _ _ _ _ _ _ w' hbb)
  clear hv1 hv2 hbb
  obtain ⟨c0, c1⟩ := two_cells HX.out
  obtain ⟨d0, d1⟩ := two_cells HY.out
  obtain ⟨z0, z1⟩ := two_cells HZ.out
  go_upto_region 26 with (first
    | (go_at_call 18; (with_reducible refine (HF1.out _).mono ?_); rintro en w5 ⟨rfl, hbz⟩; obtain ⟨F, hF, hFa, hFo, hFb⟩ := order_put (.int .i64 p41) (.int .i64 p42) (heapB hbz HA.out); obtain ⟨m0, m1⟩ := two_cells (heapB hbz HA.out); have y0 := free_of_heap (heapB hbz HA.out) 0; have y1 := free_of_heap (heapB hbz HA.out) 1; have HX := Lib.hid ((hFo w.heap.size (by omega)).trans (heapB hbz HX.out)); have HY := Lib.hid ((hFo (w.heap.size + 1) (by omega)).trans (heapB hbz HY.out)); have HZ := Lib.hid ((hFo (w.heap.size + 2) (by omega)).trans (heapB hbz HZ.out)); have HE := Lib.hid ((hFo gb (by omega)).trans (heapB hbz HE.out)); have HB := Lib.hid (hFb A.heap.size A (by omega) (belowT HB.out hbz)); have HA := Lib.hid hFa; obtain ⟨d0, d1⟩ := two_cells HY.out; obtain ⟨z0, z1⟩ := two_cells HZ.out; rw [← hF] at d0 d1 z0 z1; have HFQ := Lib.hid hF; clear hbz hFa hFo hFb hF)
    | (go_at_call 18; (with_reducible refine (HF2.out _).mono ?_); rintro en w6 ⟨rfl, hbz⟩; rw [HFQ.out] at hbz; obtain ⟨G, hG, hGa, hGo, hGb⟩ := order_put (.int .i64 q41) (.int .i64 q42) (heapB hbz HE.out); obtain ⟨m0, m1⟩ := two_cells (heapB hbz HE.out); have y0 := free_of_heap (heapB hbz HE.out) 0; have y1 := free_of_heap (heapB hbz HE.out) 1; have HX := Lib.hid ((hGo w.heap.size (by omega)).trans (heapB hbz HX.out)); have HY := Lib.hid ((hGo (w.heap.size + 1) (by omega)).trans (heapB hbz HY.out)); have HZ := Lib.hid ((hGo (w.heap.size + 2) (by omega)).trans (heapB hbz HZ.out)); have HA := Lib.hid ((hGo ga (by omega)).trans (heapB hbz HA.out)); have HB := Lib.hid (hGb A.heap.size A (by omega) (belowT HB.out hbz)); have HE := Lib.hid hGa; obtain ⟨k0, k1⟩ := two_cells HA.out; obtain ⟨l0, l1⟩ := two_cells HE.out; obtain ⟨z0, z1⟩ := two_cells HZ.out; rw [← hG] at k0 k1 l0 l1 z0 z1; have HGQ := Lib.hid hG; clear hbz hGa hGo hGb hG)
    | (go_at_call 70; (with_reducible refine (HBO.out _).mono ?_); rintro en Z2 ⟨rfl, hbz⟩; rw [HGQ.out] at hbz; have HX := Lib.hid (heapB hbz HX.out); have HY := Lib.hid (heapB hbz HY.out); have HZ := Lib.hid (heapB hbz HZ.out); have HA := Lib.hid (heapB hbz HA.out); have HE := Lib.hid (heapB hbz HE.out); obtain ⟨z0, z1⟩ := two_cells HZ.out; have HB := Lib.hid (belowT HB.out hbz); clear hbz))
  clear HF1 HF2 HBO HFQ HGQ
  have HF1 := Lib.hid (fun w' => roundR_c um ue n w' ub.1 ub.2)
  have HF2 := Lib.hid (fun w' => roundR_c vm ve n w' vb.1 vb.2)
  obtain ⟨p51, p52, p53, q51, q52, q53, hv1, hv2, hbb⟩ := round_both (n := n) HRU.out HRW.out HLE.out
  rw [hv1] at HF1
  rw [hv2] at HF2
  have HBO := Lib.hid (fun w' => both_c _ _ _ _ _ _ w' hbb)
  clear hv1 hv2 hbb
  obtain ⟨c0, c1⟩ := two_cells HX.out
  obtain ⟨d0, d1⟩ := two_cells HY.out
  obtain ⟨z0, z1⟩ := two_cells HZ.out
  go_upto_region 30 with (first
    | (go_at_call 19; (with_reducible refine (HF1.out _).mono ?_); rintro en w5 ⟨rfl, hbz⟩; obtain ⟨F, hF, hFa, hFo, hFb⟩ := order_put (.int .i64 p51) (.int .i64 p52) (heapB hbz HA.out); obtain ⟨m0, m1⟩ := two_cells (heapB hbz HA.out); have y0 := free_of_heap (heapB hbz HA.out) 0; have y1 := free_of_heap (heapB hbz HA.out) 1; have HX := Lib.hid ((hFo w.heap.size (by omega)).trans (heapB hbz HX.out)); have HY := Lib.hid ((hFo (w.heap.size + 1) (by omega)).trans (heapB hbz HY.out)); have HZ := Lib.hid ((hFo (w.heap.size + 2) (by omega)).trans (heapB hbz HZ.out)); have HE := Lib.hid ((hFo gb (by omega)).trans (heapB hbz HE.out)); have HB := Lib.hid (hFb A.heap.size A (by omega) (belowT HB.out hbz)); have HA := Lib.hid hFa; obtain ⟨d0, d1⟩ := two_cells HY.out; obtain ⟨z0, z1⟩ := two_cells HZ.out; rw [← hF] at d0 d1 z0 z1; have HFQ := Lib.hid hF; clear hbz hFa hFo hFb hF)
    | (go_at_call 19; (with_reducible refine (HF2.out _).mono ?_); rintro en w6 ⟨rfl, hbz⟩; rw [HFQ.out] at hbz; obtain ⟨G, hG, hGa, hGo, hGb⟩ := order_put (.int .i64 q51) (.int .i64 q52) (heapB hbz HE.out); obtain ⟨m0, m1⟩ := two_cells (heapB hbz HE.out); have y0 := free_of_heap (heapB hbz HE.out) 0; have y1 := free_of_heap (heapB hbz HE.out) 1; have HX := Lib.hid ((hGo w.heap.size (by omega)).trans (heapB hbz HX.out)); have HY := Lib.hid ((hGo (w.heap.size + 1) (by omega)).trans (heapB hbz HY.out)); have HZ := Lib.hid ((hGo (w.heap.size + 2) (by omega)).trans (heapB hbz HZ.out)); have HA := Lib.hid ((hGo ga (by omega)).trans (heapB hbz HA.out)); have HB := Lib.hid (hGb A.heap.size A (by omega) (belowT HB.out hbz)); have HE := Lib.hid hGa; obtain ⟨k0, k1⟩ := two_cells HA.out; obtain ⟨l0, l1⟩ := two_cells HE.out; obtain ⟨z0, z1⟩ := two_cells HZ.out; rw [← hG] at k0 k1 l0 l1 z0 z1; have HGQ := Lib.hid hG; clear hbz hGa hGo hGb hG)
    | (go_at_call 70; (with_reducible refine (HBO.out _).mono ?_); rintro en Z3 ⟨rfl, hbz⟩; rw [HGQ.out] at hbz; have HX := Lib.hid (heapB hbz HX.out); have HY := Lib.hid (heapB hbz HY.out); have HZ := Lib.hid (heapB hbz HZ.out); have HA := Lib.hid (heapB hbz HA.out); have HE := Lib.hid (heapB hbz HE.out); obtain ⟨z0, z1⟩ := two_cells HZ.out; have HB := Lib.hid (belowT HB.out hbz); clear hbz))
  clear HF1 HF2 HBO HFQ HGQ
  have HF1 := Lib.hid (fun w' => rootR_c um ue w' ub.1 ub.2)
  have HF2 := Lib.hid (fun w' => rootR_c vm ve w' vb.1 vb.2)
  obtain ⟨p61, p62, p63, q61, q62, q63, hv1, hv2, hbb⟩ := root_both HRU.out HRW.out HLE.out
  rw [hv1] at HF1
  rw [hv2] at HF2
  have HBO := Lib.hid (fun w' => both_c _ _ _ _ _ _ w' hbb)
  clear hv1 hv2 hbb
  obtain ⟨c0, c1⟩ := two_cells HX.out
  obtain ⟨d0, d1⟩ := two_cells HY.out
  obtain ⟨z0, z1⟩ := two_cells HZ.out
  go_upto_region 34 with (first
    | (go_at_call 48; (with_reducible refine (HF1.out _).mono ?_); rintro en w5 ⟨rfl, hbz⟩; obtain ⟨F, hF, hFa, hFo, hFb⟩ := order_put (.int .i64 p61) (.int .i64 p62) (heapB hbz HA.out); obtain ⟨m0, m1⟩ := two_cells (heapB hbz HA.out); have y0 := free_of_heap (heapB hbz HA.out) 0; have y1 := free_of_heap (heapB hbz HA.out) 1; have HX := Lib.hid ((hFo w.heap.size (by omega)).trans (heapB hbz HX.out)); have HY := Lib.hid ((hFo (w.heap.size + 1) (by omega)).trans (heapB hbz HY.out)); have HZ := Lib.hid ((hFo (w.heap.size + 2) (by omega)).trans (heapB hbz HZ.out)); have HE := Lib.hid ((hFo gb (by omega)).trans (heapB hbz HE.out)); have HB := Lib.hid (hFb A.heap.size A (by omega) (belowT HB.out hbz)); have HA := Lib.hid hFa; obtain ⟨d0, d1⟩ := two_cells HY.out; obtain ⟨z0, z1⟩ := two_cells HZ.out; rw [← hF] at d0 d1 z0 z1; have HFQ := Lib.hid hF; clear hbz hFa hFo hFb hF)
    | (go_at_call 48; (with_reducible refine (HF2.out _).mono ?_); rintro en w6 ⟨rfl, hbz⟩; rw [HFQ.out] at hbz; obtain ⟨G, hG, hGa, hGo, hGb⟩ := order_put (.int .i64 q61) (.int .i64 q62) (heapB hbz HE.out); obtain ⟨m0, m1⟩ := two_cells (heapB hbz HE.out); have y0 := free_of_heap (heapB hbz HE.out) 0; have y1 := free_of_heap (heapB hbz HE.out) 1; have HX := Lib.hid ((hGo w.heap.size (by omega)).trans (heapB hbz HX.out)); have HY := Lib.hid ((hGo (w.heap.size + 1) (by omega)).trans (heapB hbz HY.out)); have HZ := Lib.hid ((hGo (w.heap.size + 2) (by omega)).trans (heapB hbz HZ.out)); have HA := Lib.hid ((hGo ga (by omega)).trans (heapB hbz HA.out)); have HB := Lib.hid (hGb A.heap.size A (by omega) (belowT HB.out hbz)); have HE := Lib.hid hGa; obtain ⟨k0, k1⟩ := two_cells HA.out; obtain ⟨l0, l1⟩ := two_cells HE.out; obtain ⟨z0, z1⟩ := two_cells HZ.out; rw [← hG] at k0 k1 l0 l1 z0 z1; have HGQ := Lib.hid hG; clear hbz hGa hGo hGb hG)
    | (go_at_call 70; (with_reducible refine (HBO.out _).mono ?_); rintro en Z4 ⟨rfl, hbz⟩; rw [HGQ.out] at hbz; have HX := Lib.hid (heapB hbz HX.out); have HY := Lib.hid (heapB hbz HY.out); have HZ := Lib.hid (heapB hbz HZ.out); have HA := Lib.hid (heapB hbz HA.out); have HE := Lib.hid (heapB hbz HE.out); obtain ⟨z0, z1⟩ := two_cells HZ.out; have HB := Lib.hid (belowT HB.out hbz); clear hbz))
  clear HF1 HF2 HBO HFQ HGQ
  obtain ⟨c0, c1⟩ := two_cells HX.out
  obtain ⟨d0, d1⟩ := two_cells HY.out
  have HF1 := Lib.hid (fun w' ht => floorR_c um ue w' ub.1 ub.2 ht)
  have HF2 := Lib.hid (fun w' ht => floorR_c vm ve w' vb.1 vb.2 ht)
  unfold floorR at HF1 HF2
  rw [if_pos HRU.out] at HF1
  rw [if_pos HRW.out] at HF2
  have hn1 := floor_num HRU.out
  have hn2 := floor_num HRW.out
  obtain ⟨S1, hS1⟩ : ∃ s, (⟨(Lib.itoa (floorV um ue)).toArray⟩ : ByteArray) = s := ⟨_, rfl⟩
  obtain ⟨S2, hS2⟩ : ∃ s, (⟨(Lib.itoa (floorV vm ve)).toArray⟩ : ByteArray) = s := ⟨_, rfl⟩
  rw [hS1] at HF1 hn1
  rw [hS2] at HF2 hn2
  have HCM : Hid (∀ w', Tabs w' → Calls Tryz.prog 71 #[.string S1, .string S2] w' fun en w2 => en = .returned (.tuple #[.int .i64 (sgn (floorV um ue + -floorV vm ve)), .int .i64 0]) ∧ Below w'.heap.size w' w2) := fun w' ht => law_cmp S1 S2 _ _ w' hn1 hn2 ht
  have hg0 := sgn_le (floor_mono HRU.out HRW.out HLE.out)
  obtain ⟨g, hg⟩ : ∃ g, sgn (floorV um ue + -floorV vm ve) = g := ⟨_, rfl⟩
  rw [hg] at HCM hg0
  clear hS1 hS2 hn1 hn2 hg
  go_wp2_with (first
    | (go_at_call 64; (with_reducible refine (HF1.out _ (HPA.out.below HB.out)).mono ?_); rintro en w5 ⟨rfl, hbz⟩; have d0 := keep_cell hbz d0; have d1 := keep_cell hbz d1; have HB := Lib.hid (belowT HB.out hbz); clear hbz)
    | (go_at_call 64; (with_reducible refine (HF2.out _ (HPA.out.below HB.out)).mono ?_); rintro en w6 ⟨rfl, hbz⟩; have HB := Lib.hid (belowT HB.out hbz); clear hbz)
    | (go_at_call 71; (with_reducible refine (HCM.out _ (HTA.out.below HB.out)).mono ?_); rintro en w7 ⟨rfl, hbz⟩; have HB := Lib.hid (belowT HB.out hbz); clear hbz)
    | (go_at_call 25; (with_reducible refine (HSAN.out _ (HPA.out.below HB.out)).mono ?_); rintro en w8 ⟨rfl, hbz⟩; have HB := Lib.hid (belowT HB.out hbz); clear hbz))
  go_ret
  exact ⟨by first | rfl | simp [hg0], belowT HBA.out HB.out⟩
end Go.Proofs.YtekbfommnmikbaaGreatDoor
