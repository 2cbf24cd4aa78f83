/- Texts of this claim, merged: M1, R2, Rnd, Amt, RealA, RealB. -/
import Derived.WalkKit
import Derived.WalkSpells
import Derived.WalkLawsBesides
import Derived.Lib.Hide
import Derived.Maps.AppendAt
import Derived.Deep.LoopGhost
import Derived.Deep.QuietTactic
import Derived.BigQuiet
import Derived.Deep.RegionHeld3
import Derived.Deep.AppendLies
import Derived.Deep.DeepMust
import Derived.Deep.DeepCutAuto
import Derived.Lib.SliceRun
import Derived.Deep.OwnRows
import Derived.RangeFuncNested
import Derived.RangeFuncBound
import Derived.RangeFuncCalls
import Derived.RangeFuncLeaves
import Derived.RangeFuncBox
import Derived.Shelf.Abstract
import Derived.Shelf.RegionOpen
import Derived.OwnWalkIn
import Derived.TacticsInMore
import Derived.LoopNIn
import Derived.LoopIn
import Derived.Sort.LoopGhostIn
import Derived.Sort.CutIn
import Derived.Stop.RegionWithIn
import Derived.Deep.DrawnRows
import Derived.Test.YtekbfommnmikbaaGreatDoorProg
import Derived.Lib.AppendIntMem
import Derived.WalkSmall
import Derived.Test.YtekbfommnmikbaaGreatDoorShelf
import Derived.Test.YtekbfommnmikbaaGreatDoorShelfB
import Derived.Laws.IdiomStrings
/- Magnitudes: parts, their sums, products, quotients. -/
namespace Go.Proofs.YtekbfommnmikbaaGreatDoor
set_option linter.unusedVariables false
set_option linter.unusedSimpArgs false

/-- The value of digits, the least significant one first. -/
def val (b : Nat) : List Int → Int
  | [] => 0
  | d :: l => d + (b : Int) * val b l

/-- All are digits to the base. -/
def InR (b : Nat) (l : List Int) : Prop := ∀ d ∈ l, 0 ≤ d ∧ d < (b : Int)

theorem InR.nil (b : Nat) : InR b [] := fun _ h => by cases h
theorem InR.cons {b : Nat} {d : Int} {l : List Int} (h0 : 0 ≤ d) (h1 : d < (b : Int)) (h : InR b l) : InR b (d :: l) := by
  intro x hx
  rcases List.mem_cons.1 hx with rfl | hx
  · exact ⟨h0, h1⟩
  · exact h x hx
theorem InR.tail {b : Nat} {d : Int} {l : List Int} (h : InR b (d :: l)) : InR b l := fun x hx => h x (List.mem_cons_of_mem _ hx)
theorem InR.append {b : Nat} {l m : List Int} (h : InR b l) (k : InR b m) : InR b (l ++ m) := by
  intro x hx
  rcases List.mem_append.1 hx with hx | hx
  · exact h x hx
  · exact k x hx
theorem InR.snoc {b : Nat} {l : List Int} {d : Int} (h : InR b l) (h0 : 0 ≤ d) (h1 : d < (b : Int)) : InR b (l ++ [d]) := h.append (InR.cons h0 h1 (InR.nil b))
theorem InR.take {b : Nat} {l : List Int} (h : InR b l) (k : Nat) : InR b (l.take k) := fun x hx => h x (List.mem_of_mem_take hx)
theorem InR.drop {b : Nat} {l : List Int} (h : InR b l) (k : Nat) : InR b (l.drop k) := fun x hx => h x (List.mem_of_mem_drop hx)
theorem InR.set {b : Nat} {l : List Int} (h : InR b l) (i : Nat) {d : Int} (h0 : 0 ≤ d) (h1 : d < (b : Int)) : InR b (l.set i d) := by
  intro x hx
  rcases List.mem_or_eq_of_mem_set hx with hx | rfl
  · exact h x hx
  · exact ⟨h0, h1⟩
theorem InR.at_ {b : Nat} {l : List Int} (h : InR b l) (hb : 0 < b) (i : Nat) : 0 ≤ l.getD i 0 ∧ l.getD i 0 < (b : Int) := by
  by_cases hi : i < l.length
  · rw [List.getD_eq_getElem?_getD, List.getElem?_eq_getElem hi]
    exact h _ (List.getElem_mem hi)
  · rw [List.getD_eq_getElem?_getD, List.getElem?_eq_none (by omega)]
    simp; omega
theorem InR.replicate {b : Nat} (hb : 0 < b) (n : Nat) : InR b (List.replicate n 0) := by
  intro x hx
  obtain ⟨_, rfl⟩ := List.mem_replicate.1 hx
  exact ⟨Int.le_refl _, by omega⟩

theorem val_nil (b : Nat) : val b [] = 0 := rfl
theorem val_cons (b : Nat) (d : Int) (l : List Int) : val b (d :: l) = d + (b : Int) * val b l := rfl

theorem val_append (b : Nat) (l m : List Int) : val b (l ++ m) = val b l + (b : Int) ^ l.length * val b m := by
  induction l with
  | nil => simp [val]
  | cons d l ih =>
    simp only [List.cons_append, val_cons, ih, List.length_cons, Int.pow_succ]
    grind

theorem val_snoc (b : Nat) (l : List Int) (d : Int) : val b (l ++ [d]) = val b l + (b : Int) ^ l.length * d := by
  rw [val_append]; simp [val]

theorem val_replicate (b n : Nat) : val b (List.replicate n 0) = 0 := by
  induction n with
  | zero => rfl
  | succ n ih => rw [List.replicate_succ, val_cons, ih]; simp

theorem val_nonneg {b : Nat} {l : List Int} (h : InR b l) : 0 ≤ val b l := by
  induction l with
  | nil => exact Int.le_refl _
  | cons d l ih =>
    have h1 := h d (List.mem_cons_self ..)
    have h2 := ih h.tail
    have h3 : 0 ≤ (b : Int) * val b l := Int.mul_nonneg (by omega) h2
    rw [val_cons]; omega

theorem pow_mono' {b i j : Nat} (hb : 0 < b) (h : i ≤ j) : (b : Int) ^ i ≤ (b : Int) ^ j := by exact_mod_cast Nat.pow_le_pow_right hb h

theorem val_lt {b : Nat} {l : List Int} (h : InR b l) : val b l < (b : Int) ^ l.length := by
  induction l with
  | nil => simp [val]
  | cons d l ih =>
    have h1 := h d (List.mem_cons_self ..)
    have h2 := ih h.tail
    have h3 : (b : Int) * (val b l + 1) ≤ (b : Int) * (b : Int) ^ l.length := Int.mul_le_mul_of_nonneg_left (by omega) (by omega)
    rw [val_cons, List.length_cons, Int.pow_succ, Int.mul_comm ((b : Int) ^ l.length)]
    rw [Int.mul_add] at h3
    omega

theorem val_drop (b : Nat) (l : List Int) (i : Nat) (hi : i < l.length) : val b (l.drop i) = l.getD i 0 + (b : Int) * val b (l.drop (i + 1)) := by
  rw [List.drop_eq_getElem_cons hi, val_cons, List.getD_eq_getElem?_getD, List.getElem?_eq_getElem hi]
  rfl

theorem val_set (b : Nat) (l : List Int) (i : Nat) (x : Int) (hi : i < l.length) : val b (l.set i x) = val b l + (b : Int) ^ i * (x - l.getD i 0) := by
  induction l generalizing i with
  | nil => simp at hi
  | cons d l ih =>
    cases i with
    | zero => simp [val_cons]; omega
    | succ i =>
      have h := ih i (by simpa using hi)
      simp only [List.set_cons_succ, val_cons, h, List.getD_cons_succ, Int.pow_succ]
      grind

/-- The canonical digits of a number, the least significant one first, without zeros at the end. -/
def dg (b n : Nat) : List Int := if h : n = 0 ∨ b < 2 then [] else ((n % b : Nat) : Int) :: dg b (n / b)
  termination_by n
  decreasing_by exact Nat.div_lt_self (by omega) (by omega)

theorem dg_zero (b : Nat) : dg b 0 = [] := by rw [dg]; simp
theorem dg_pos {b n : Nat} (hb : 2 ≤ b) (hn : 0 < n) : dg b n = ((n % b : Nat) : Int) :: dg b (n / b) := by
  rw [dg, dif_neg (by omega)]

theorem dg_inR {b : Nat} (hb : 2 ≤ b) (n : Nat) : InR b (dg b n) := by
  induction n using Nat.strongRecOn with
  | _ n ih =>
    by_cases hn : n = 0
    · subst hn; rw [dg_zero]; exact InR.nil b
    · rw [dg_pos hb (by omega)]
      have := Nat.mod_lt n (show 0 < b by omega)
      exact InR.cons (by omega) (by omega) (ih _ (Nat.div_lt_self (by omega) (by omega)))

theorem val_dg {b : Nat} (hb : 2 ≤ b) (n : Nat) : val b (dg b n) = (n : Int) := by
  induction n using Nat.strongRecOn with
  | _ n ih =>
    by_cases hn : n = 0
    · subst hn; rw [dg_zero]; rfl
    · rw [dg_pos hb (by omega), val_cons, ih _ (Nat.div_lt_self (by omega) (by omega))]
      have := Nat.mod_add_div n b
      have e : ((n % b : Nat) : Int) + (b : Int) * ((n / b : Nat) : Int) = ((n % b + b * (n / b) : Nat) : Int) := by simp
      rw [e, this]

theorem dg_eq_nil {b n : Nat} (hb : 2 ≤ b) : dg b n = [] ↔ n = 0 := by
  constructor
  · intro h
    have := val_dg hb n
    rw [h] at this
    simp [val] at this; omega
  · rintro rfl; exact dg_zero b

theorem dg_length_le {b : Nat} (hb : 2 ≤ b) (n k : Nat) : (dg b n).length ≤ k ↔ n < b ^ k := by
  induction k generalizing n with
  | zero =>
    simp only [Nat.pow_zero, Nat.le_zero, List.length_eq_zero_iff]
    rw [dg_eq_nil hb]; omega
  | succ k ih =>
    by_cases hn : n = 0
    · subst hn
      have : 0 < b ^ (k + 1) := Nat.pow_pos (by omega)
      rw [dg_zero]; simp [this]
    · rw [dg_pos hb (by omega), List.length_cons, Nat.add_le_add_iff_right, ih, Nat.div_lt_iff_lt_mul (by omega), Nat.pow_succ]

theorem dg_length_lt {b : Nat} (hb : 2 ≤ b) (n k : Nat) : k < (dg b n).length ↔ b ^ k ≤ n := by
  have := dg_length_le hb n k
  omega

theorem dg_length_mono {b : Nat} (hb : 2 ≤ b) {m n : Nat} (h : m ≤ n) : (dg b m).length ≤ (dg b n).length := by
  have h1 := (dg_length_le hb n (dg b n).length).1 (Nat.le_refl _)
  exact (dg_length_le hb m _).2 (by omega)

end Go.Proofs.YtekbfommnmikbaaGreatDoor

namespace Go.Proofs.YtekbfommnmikbaaGreatDoor
set_option linter.unusedVariables false
set_option linter.unusedSimpArgs false

/-- There is a root. -/
theorem root_ex (n : Nat) : ∃ r, r * r ≤ n ∧ n < (r + 1) * (r + 1) := by
  induction n with
  | zero => exact ⟨0, by omega, by omega⟩
  | succ n ih =>
    obtain ⟨r, h1, h2⟩ := ih
    rcases Nat.lt_or_ge (n + 1) ((r + 1) * (r + 1)) with h | h
    · exact ⟨r, by omega, h⟩
    · refine ⟨r + 1, h, ?_⟩
      have : (r + 1 + 1) * (r + 1 + 1) = (r + 1) * (r + 1) + 2 * (r + 1) + 1 := by grind
      omega
theorem root_unique {n r s : Nat} (h1 : r * r ≤ n) (h2 : n < (r + 1) * (r + 1)) (k1 : s * s ≤ n) (k2 : n < (s + 1) * (s + 1)) : r = s := by
  rcases Nat.lt_trichotomy r s with h | h | h
  · have : (r + 1) * (r + 1) ≤ s * s := Nat.mul_le_mul h h
    omega
  · exact h
  · have : (s + 1) * (s + 1) ≤ r * r := Nat.mul_le_mul h h
    omega
/-- The square root, rounded down. -/
noncomputable def root (n : Nat) : Nat := (root_ex n).choose
theorem root_le (n : Nat) : root n * root n ≤ n := (root_ex n).choose_spec.1
theorem root_lt (n : Nat) : n < (root n + 1) * (root n + 1) := (root_ex n).choose_spec.2
theorem root_eq {n r : Nat} (h1 : r * r ≤ n) (h2 : n < (r + 1) * (r + 1)) : root n = r := root_unique (root_le n) (root_lt n) h1 h2
/-- One step of Euclid's way, with the first number's factor. -/
structure Eu (a0 b0 a b : Nat) (one zero : Int) : Prop where
  gcd : Nat.gcd a b = Nat.gcd a0 b0
  fa : ∃ s, one * (a0 : Int) + s * (b0 : Int) = (a : Int)
  fb : ∃ t, zero * (a0 : Int) + t * (b0 : Int) = (b : Int)
  size : zero.natAbs * a + one.natAbs * b ≤ b0
  one_ : one.natAbs ≤ b0 + 1
  az : a ≤ a0 + b0
  bz : b ≤ a0 + b0

theorem Eu.zero_le {a0 b0 a b : Nat} {one zero : Int} (h : Eu a0 b0 a b one zero) (ha : 0 < a) : zero.natAbs ≤ b0 := by
  have h1 := h.size
  have h2 : zero.natAbs * 1 ≤ zero.natAbs * a := Nat.mul_le_mul_left _ ha
  omega
end Go.Proofs.YtekbfommnmikbaaGreatDoor

namespace Go.Proofs.YtekbfommnmikbaaGreatDoor
set_option linter.unusedVariables false
set_option linter.unusedSimpArgs false
open Go.RowKit

/-- The numbers xs lie from A on. -/
def Row (k : IntKind) (w : World) (A : Option Addr) (xs : List Int) : Prop :=
  ∀ j, j < xs.length → ∃ a, A = some a ∧ w.cell? (a.add j) = some (.int k (xs[j]?.getD 0))

/-- v is a slice of the numbers xs. -/
def Sl (k : IntKind) (w : World) (v : Value) (xs : List Int) : Prop := ∃ A c, v = .slice A xs.length c ∧ xs.length ≤ c ∧ c ≤ 9223372036854775807 ∧ Row k w A xs

/-- v lies from block B on (or nowhere). -/
def FromB (B : Nat) (v : Value) : Prop := ∀ k, v.ownBlock = some k → B ≤ k

/-- v is a slice of the digits of n to the base b. -/
def Dg (b : Nat) (w : World) (v : Value) (n : Nat) : Prop := Sl .i64 w v (dg b n)

theorem Row.at_ {k : IntKind} {w : World} {A : Option Addr} {xs : List Int} (h : Row k w A xs) (j : Nat) (hj : j < xs.length) :
    ∃ a, A = some a ∧ w.cell? (a.add j) = some (.int k (xs[j]?.getD 0)) := h j hj

theorem Row.nil {k : IntKind} {w : World} {A : Option Addr} : Row k w A [] := fun _ h => by simp at h

/-- What lay in a world lies in each later one that has left it. -/
theorem Row.below {k : IntKind} {w w' : World} {A : Option Addr} {xs : List Int} (h : Row k w A xs) (hb : Below w.heap.size w w') : Row k w' A xs := by
  intro j hj
  obtain ⟨a, e, hc⟩ := h j hj
  exact ⟨a, e, (hb.cell (World.block_lt_of_cell? w _ hc)).trans hc⟩
theorem Sl.below {k : IntKind} {w w' : World} {v : Value} {xs : List Int} (h : Sl k w v xs) (hb : Below w.heap.size w w') : Sl k w' v xs := by
  obtain ⟨A, c, e, hc, hm, hr⟩ := h
  exact ⟨A, c, e, hc, hm, hr.below hb⟩
theorem Dg.below {b : Nat} {w w' : World} {v : Value} {n : Nat} (h : Dg b w v n) (hb : Below w.heap.size w w') : Dg b w' v n := Sl.below h hb

theorem add_block (a : Addr) (j : Nat) : (a.add j).block = a.block := by unfold Addr.add; split <;> rfl
theorem add_lit (g off j : Nat) : (⟨g, off, none⟩ : Addr).add j = ⟨g, off + j, none⟩ := by unfold Addr.add; split <;> simp_all

/-- A store elsewhere, or whatever keeps the block. -/
theorem Row.same {k : IntKind} {w w' : World} {A : Option Addr} {xs : List Int} (h : Row k w A xs) (hs : ∀ a, A = some a → w'.heap[a.block]? = w.heap[a.block]?) : Row k w' A xs := by
  intro j hj
  obtain ⟨a, e, hc⟩ := h j hj
  refine ⟨a, e, ?_⟩
  rw [World.cell?_of_block (w := w) (by rw [add_block]; exact hs a e)]
  exact hc
theorem Sl.same {k : IntKind} {w w' : World} {v : Value} {xs : List Int} (h : Sl k w v xs) (hs : ∀ g, v.ownBlock = some g → w'.heap[g]? = w.heap[g]?) : Sl k w' v xs := by
  obtain ⟨A, c, rfl, hc, hm, hr⟩ := h
  exact ⟨A, c, rfl, hc, hm, hr.same fun a e => hs _ (by subst e; rfl)⟩
theorem Dg.same {b : Nat} {w w' : World} {v : Value} {n : Nat} (h : Dg b w v n) (hs : ∀ g, v.ownBlock = some g → w'.heap[g]? = w.heap[g]?) : Dg b w' v n := Sl.same h hs

theorem Sl.alloc {k : IntKind} {w : World} {v : Value} {xs : List Int} (h : Sl k w v xs) (o : Obj) : Sl k (w.alloc o) v xs := h.below ((Below.refl _ _).alloc (Nat.le_refl _) _)
theorem Sl.drew {k : IntKind} {w : World} {v : Value} {xs : List Int} (h : Sl k w v xs) : Sl k w.drew v xs := h.below (Below.refl _ _).drew
theorem Row.alloc {k : IntKind} {w : World} {v : Option Addr} {xs : List Int} (h : Row k w v xs) (o : Obj) : Row k (w.alloc o) v xs := h.below ((Below.refl _ _).alloc (Nat.le_refl _) _)
theorem Row.drew {k : IntKind} {w : World} {v : Option Addr} {xs : List Int} (h : Row k w v xs) : Row k w.drew v xs := h.below (Below.refl _ _).drew

theorem below_then' {w w1 w2 : World} (h : Below w.heap.size w w1) (k : Below w1.heap.size w1 w2) : Below w.heap.size w w2 := h.trans (k.mono h.size)
theorem below_drewN {B : Nat} {a w : World} (h : Below B a w) (n : Nat) : Below B a (w.drewN n) := ⟨h.os, h.tape, h.output, h.size, h.block⟩

/-- What the call itself has made reads as a slice. -/
theorem own_row {w : World} {base n : Nat} {e : TypeId} {k : IntKind} {v : Value} {xs : List Int} (h : w.ownsRow base e 1 v n (xs.map (Value.int k))) :
    ∃ A c, v = .slice A xs.length c ∧ xs.length ≤ c ∧ c ≤ maxLen ∧ Row k w A xs ∧ xs.length = n := by
  have hl : xs.length = n := by have := h.1; simpa using this
  rcases h.2 with ⟨rfl, h0⟩ | ⟨g, cap, cur, rfl, hb, hh, hn, hm, hs, ht⟩
  · obtain rfl : xs = [] := List.eq_nil_of_length_eq_zero (by omega)
    exact ⟨none, 0, rfl, Nat.le_refl _, Nat.zero_le _, Row.nil, by simpa using hl⟩
  · refine ⟨some ⟨g, 0, none⟩, cap, by rw [hl], by omega, hm, ?_, hl⟩
    intro j hj
    refine ⟨_, rfl, h.cells (g := g) rfl j _ ?_⟩
    rw [List.getElem?_map, List.getElem?_eq_getElem hj]
    rfl
theorem own_from {w : World} {base n : Nat} {e : TypeId} {size : Nat} {v : Value} {xs : List Value} (h : w.ownsRow base e size v n xs) : FromB base v := fun k hk => (h.lt k hk).1

theorem FromB.mono {B B' : Nat} {v : Value} (h : FromB B v) (hB : B' ≤ B) : FromB B' v := fun k hk => Nat.le_trans hB (h k hk)

theorem set_same {w : World} {a : Addr} {u : Value} (v : Value) (h : w.cell? a = some u) : (w.setCell a v).cell? a = some v := World.cell?_setCell_same (h := h) ..
theorem set_far {w : World} {a b : Addr} {u : Value} (v : Value) (hne : a.block ≠ b.block) (h : w.cell? b = some u) : (w.setCell a v).cell? b = some u := (World.cell?_setCell_far w a b v hne).trans h
theorem set_other {w : World} {a b : Addr} {u : Value} (v : Value) (hne : a ≠ b) (h : w.cell? b = some u) : (w.setCell a v).cell? b = some u := (World.cell?_setCell_other (h := hne) ..).trans h

theorem Dg.set {b : Nat} {w : World} {v : Value} {n k : Nat} {a : Addr} (h : Dg b w v n) (hf : FromB k v) (hk : a.block < k) (x : Value) : Dg b (w.setCell a x) v n :=
  h.same fun g hg => Below.heap_setCell _ _ _ _ (by have := hf g hg; omega)
theorem Sl.set {kd : IntKind} {w : World} {v : Value} {xs : List Int} {k : Nat} {a : Addr} (h : Sl kd w v xs) (hf : FromB k v) (hk : a.block < k) (x : Value) : Sl kd (w.setCell a x) v xs :=
  h.same fun g hg => Below.heap_setCell _ _ _ _ (by have := hf g hg; omega)

/-- What a call that only makes memory of its own keeps. -/
theorem keep_cell {w w' : World} {a : Addr} {v : Value} (hb : Below w.heap.size w w') (h : w.cell? a = some v) : w'.cell? a = some v := (hb.cell (World.block_lt_of_cell? w a h)).trans h
theorem keep_free' {w w' : World} {a : Addr} {v : Value} (hb : Below w.heap.size w w') (hs : w.cell? a = some v) (h : w.frozen? a = false) : w'.frozen? a = false := by rw [hb.frozen (World.block_lt_of_cell? w a hs)]; exact h
/-- Below B (some block of before), kept by such a call. -/
structure Bel (B : Nat) (w w' : World) : Prop where
  to_ : Below B w w'
  size_ : B ≤ w.heap.size
theorem Bel.call {B : Nat} {w w1 w2 : World} (h : Bel B w w1) (hb : Below w1.heap.size w1 w2) : Bel B w w2 := ⟨h.to_.trans (hb.mono (Nat.le_trans h.size_ h.to_.size)), h.size_⟩
theorem Bel.to {w w1 : World} (h : Bel w.heap.size w w1) : Below w.heap.size w w1 := h.to_
theorem Bel.refl (B : Nat) (w : World) (h : B ≤ w.heap.size) : Bel B w w := ⟨Below.refl _ _, h⟩
theorem Bel.drew {B : Nat} {w w1 : World} (h : Bel B w w1) : Bel B w w1.drew := ⟨h.to_.drew, h.size_⟩
theorem Bel.alloc {B : Nat} {w w1 : World} (h : Bel B w w1) (o : Obj) : Bel B w (w1.alloc o) := ⟨h.to_.alloc (Nat.le_trans h.size_ h.to_.size) o, h.size_⟩
theorem Bel.set {B : Nat} {w w1 : World} (h : Bel B w w1) {a : Addr} (v : Value) (ha : B ≤ a.block) : Bel B w (w1.setCell a v) := ⟨h.to_.setCell ha v, h.size_⟩

theorem cell_of_heap {w : World} {b : Nat} {c : Array Value} {t : TypeId} {f : Nat × Nat} (h : w.heap[b]? = some (.cells c t f)) (i : Nat) : w.cell? ⟨b, i, none⟩ = c[i]? := by unfold World.cell?; rw [h]; rfl
theorem free_of_heap {w : World} {b : Nat} {c : Array Value} {t : TypeId} (h : w.heap[b]? = some (.cells c t (0, 0))) (i : Nat) : w.frozen? ⟨b, i, none⟩ = false := by unfold World.frozen?; rw [h]; simp
theorem heap_old {w : World} {b : Nat} {x : Obj} (o : Obj) (h : w.heap[b]? = some x) : (w.alloc o).heap[b]? = some x := by
  rw [Below.heap_alloc w o b (Array.getElem?_eq_some_iff.1 h).1]; exact h
theorem heap_new' (w : World) (o : Obj) (b : Nat) (hb : b = w.heap.size) : (w.alloc o).heap[b]? = some o := by subst hb; exact heap_alloc_new w o
theorem max2_int (k k' : IntKind) (x y : Int) : Builtin.max2 (.int k x) (.int k' y) = pure (.int k (if x < y then y else x)) := by simp only [Builtin.max2, gt_iff_lt]
theorem min2_int (k k' : IntKind) (x y : Int) : Builtin.min2 (.int k x) (.int k' y) = pure (.int k (if y < x then y else x)) := by simp only [Builtin.min2]
theorem max_two (ats : Array TypeId) (ty : TypeId) (a b : Value) : Builtin.max_ ats ty #[a, b] = (Builtin.max2 a b >>= fun s => pure s) := by simp only [Builtin.max_, List.foldlM_cons, List.foldlM_nil]
theorem min_two (ats : Array TypeId) (ty : TypeId) (a b : Value) : Builtin.min_ ats ty #[a, b] = (Builtin.min2 a b >>= fun s => pure s) := by simp only [Builtin.min_, List.foldlM_cons, List.foldlM_nil]

end Go.Proofs.YtekbfommnmikbaaGreatDoor

namespace Go.Proofs.YtekbfommnmikbaaGreatDoor
set_option linter.unusedVariables false
set_option linter.unusedSimpArgs false
open Go.RowKit
attribute [local go_sem] max2_int min2_int max_two min_two

def sgn (n : Int) : Int := if n < 0 then -1 else if 0 < n then 1 else 0

end Go.Proofs.YtekbfommnmikbaaGreatDoor

namespace Go.Proofs.YtekbfommnmikbaaGreatDoor
set_option linter.unusedVariables false
set_option linter.unusedSimpArgs false
open Go.RowKit
attribute [local go_sem] max2_int min2_int max_two min_two

end Go.Proofs.YtekbfommnmikbaaGreatDoor

namespace Go.Proofs.YtekbfommnmikbaaGreatDoor
set_option linter.unusedVariables false
set_option linter.unusedSimpArgs false
open Go.RowKit
attribute [local go_sem] max2_int min2_int max_two min_two

theorem own_setCell_other {w : World} {base : Nat} {e : TypeId} {size : Nat} {v : Value} {n : Nat} {xs : List Value} (h : w.ownsRow base e size v n xs) (a : Addr) (u : Value) (hne : v.ownBlock ≠ some a.block) : (w.setCell a u).ownsRow base e size v n xs :=
  h.kept (row := some a.block) ⟨rfl, rfl, rfl, by simp [World.setCell], fun k _ hk => heap_setCell_other w a k u (fun e => hk (by simp [e]))⟩ (.inr hne)

end Go.Proofs.YtekbfommnmikbaaGreatDoor

namespace Go.Proofs.YtekbfommnmikbaaGreatDoor
set_option linter.unusedVariables false
set_option linter.unusedSimpArgs false
open Go.RowKit
attribute [local go_sem] max2_int min2_int max_two min_two

/-- v is the whole z: its sign, and the parts of its magnitude. -/
def Wh (w : World) (v : Value) (z : Int) : Prop := ∃ p, v = .agg #[.bool (decide (z < 0)), p] ∧ Dg 1000000000 w p z.natAbs

theorem Wh.below {w w' : World} {v : Value} {z : Int} (h : Wh w v z) (hb : Below w.heap.size w w') : Wh w' v z := by
  obtain ⟨p, e, hp⟩ := h
  exact ⟨p, e, hp.below hb⟩

/-- v is the whole z, its parts lie from block k on (or nowhere). -/
def WhN (k : Nat) (w : World) (v : Value) (z : Int) : Prop := ∃ p, v = .agg #[.bool (decide (z < 0)), p] ∧ Dg 1000000000 w p z.natAbs ∧ FromB k p
theorem WhN.wh {k : Nat} {w : World} {v : Value} {z : Int} (h : WhN k w v z) : Wh w v z := by
  obtain ⟨p, e, h1, _⟩ := h
  exact ⟨p, e, h1⟩
theorem WhN.below {k : Nat} {w w' : World} {v : Value} {z : Int} (h : WhN k w v z) (hb : Below w.heap.size w w') : WhN k w' v z := by
  obtain ⟨p, e, h1, h2⟩ := h
  exact ⟨p, e, h1.below hb, h2⟩
theorem WhN.set {k : Nat} {w : World} {v : Value} {z : Int} {a : Addr} (h : WhN k w v z) (hk : a.block < k) (x : Value) : WhN k (w.setCell a x) v z := by
  obtain ⟨p, e, h1, h2⟩ := h
  exact ⟨p, e, h1.set h2 hk x, h2⟩
theorem WhN.mono {k k' : Nat} {w : World} {v : Value} {z : Int} (h : WhN k w v z) (hk : k' ≤ k) : WhN k' w v z := by
  obtain ⟨p, e, h1, h2⟩ := h
  exact ⟨p, e, h1, h2.mono hk⟩
end Go.Proofs.YtekbfommnmikbaaGreatDoor

namespace Go.Proofs.YtekbfommnmikbaaGreatDoor
set_option linter.unusedVariables false
set_option linter.unusedSimpArgs false
open Go.RowKit Go.Shelf
attribute [local go_sem] Oper.semAt_some

/-- An index of a list of L. -/
abbrev Ix (L : Nat) := { i : Nat // i < L }
/-- The first k indices from L - 1 down. -/
def dn (L k : Nat) : List (Ix L) := (List.range (min k L)).attach.map fun j => ⟨L - 1 - j.1, by have := List.mem_range.1 j.2; omega⟩
theorem dn_succ (L k : Nat) (h : k < L) : dn L (k + 1) = dn L k ++ [⟨L - 1 - k, by omega⟩] := by
  have e1 : min (k + 1) L = k + 1 := by omega
  have e2 : min k L = k := by omega
  apply List.ext_getElem
  · simp [dn, e1, e2]
  · intro i h1 h2
    have hi : i < k + 1 := by simp [dn, e1] at h1; omega
    by_cases hk : i < k
    · rw [List.getElem_append_left (by simp [dn, e2]; exact hk)]
      simp [dn]
    · obtain rfl : i = k := by omega
      rw [List.getElem_append_right (by simp [dn, e2])]
      simp [dn]
theorem dn_length (L k : Nat) (h : k ≤ L) : (dn L k).length = k := by simp [dn]; omega
theorem dn_zero (L : Nat) : dn L 0 = [] := by simp [dn]

/-- What a round of the loop must keep: the box with the slice, and what lay below n₀. -/
def Kd (n₀ Bs : Nat) (W W' : World) : Prop := Below n₀ W W' ∧ W'.heap[Bs]? = W.heap[Bs]?
theorem Kd.t {n₀ Bs : Nat} {A B C : World} (h : Kd n₀ Bs A B) (k : Kd n₀ Bs B C) : Kd n₀ Bs A C := ⟨h.1.trans k.1, k.2.trans h.2⟩
theorem Kd.b {n₀ Bs : Nat} {w : World} (hn : n₀ ≤ w.heap.size) (hB : Bs < w.heap.size) (W : World) (l : Nat) (o o' : Obj) (hl : w.heap.size ≤ l) (h : W.heap[l]? = some o) (h1 : o.isCells = false) (h2 : o.isWalk = false) : Kd n₀ Bs W (W.putObj l o') :=
  ⟨belowK_b hn W l o o' hl h h1 h2, World.putObj_heap_other (by omega)⟩

end Go.Proofs.YtekbfommnmikbaaGreatDoor

namespace Go.Proofs.YtekbfommnmikbaaGreatDoor
set_option linter.unusedVariables false
set_option linter.unusedSimpArgs false
open Go.RowKit Go.Shelf
attribute [local go_sem] Oper.semAt_some

/-- What a round keeps. -/
structure Ov (B Bs : Nat) (W W' : World) : Prop where
  b : Below B W W'
  ko : KeepsOthers W W'
  bx : W'.heap[Bs]? = W.heap[Bs]?
  lt : B ≤ W.heap.size ∧ Bs < W.heap.size
theorem keepsOthers_below {W W' : World} (h : Below W.heap.size W W') : KeepsOthers W W' :=
  ⟨h.size, fun k o hk _ => (h.block k (Array.getElem?_eq_some_iff.1 hk).1).trans hk⟩
theorem Ov.refl {B Bs : Nat} {W : World} (h : B ≤ W.heap.size) (h' : Bs < W.heap.size) : Ov B Bs W W := ⟨Below.refl _ _, KeepsOthers.refl _, rfl, h, h'⟩
theorem Ov.call {B Bs : Nat} {W W1 W2 : World} (h : Ov B Bs W W1) (k : Below W1.heap.size W1 W2) : Ov B Bs W W2 :=
  ⟨h.b.trans (k.mono (Nat.le_trans h.lt.1 h.b.size)), h.ko.trans (keepsOthers_below k), (k.block Bs (Nat.lt_of_lt_of_le h.lt.2 h.b.size)).trans h.bx, h.lt⟩
theorem Ov.drew {B Bs : Nat} {W W1 : World} (h : Ov B Bs W W1) : Ov B Bs W W1.drew := h.call (Below.refl _ _).drew
theorem Ov.alloc {B Bs : Nat} {W W1 : World} (h : Ov B Bs W W1) (o : Obj) : Ov B Bs W (W1.alloc o) := h.call ((Below.refl _ _).alloc (Nat.le_refl _) o)
theorem Ov.set {B Bs : Nat} {W W1 : World} (h : Ov B Bs W W1) {a : Addr} (v : Value) (h1 : B ≤ a.block) (h2 : a.block ≠ Bs) : Ov B Bs W (W1.setCell a v) :=
  ⟨h.b.setCell h1 v, h.ko.trans (KeepsOthers.setCell _ _ _), (heap_setCell_other W1 a Bs v (fun e => h2 e.symm)).trans h.bx, h.lt⟩
theorem row_kept {k : IntKind} {W W' : World} {A : Option Addr} {xs : List Int} {row : Option Nat} (h : Row k W A xs) (hg : W.grownBy W' row) (hr : ∀ r, row = some r → ∃ o : Obj, W.heap[r]? = some o ∧ o.isCells = false) : Row k W' A xs := by
  intro j hj
  obtain ⟨a, e, hc⟩ := h j hj
  exact ⟨a, e, cell_kept hc hg hr⟩
theorem own_kept {W W' : World} {base : Nat} {e : TypeId} {size : Nat} {v : Value} {n : Nat} {xs : List Value} {row : Option Nat} (h : W.ownsRow base e size v n xs) (hg : W.grownBy W' row) (hr : ∀ r, row = some r → ∃ o : Obj, W.heap[r]? = some o ∧ o.isCells = false) : W'.ownsRow base e size v n xs := by
  refine h.kept hg ?_
  rcases h.2 with ⟨rfl, _⟩ | ⟨g, cap, cur, rfl, _, hh, _⟩
  · exact .inl rfl
  · refine .inr fun e' => ?_
    obtain ⟨o, ho, hc⟩ := hr g e'.symm
    rw [hh] at ho; cases ho; cases hc
theorem own_below {w w' : World} {base : Nat} {e : TypeId} {size : Nat} {v : Value} {n : Nat} {xs : List Value} (h : w.ownsRow base e size v n xs) (hb : Below w.heap.size w w') : w'.ownsRow base e size v n xs := by
  rcases h.2 with ⟨rfl, h0⟩ | ⟨g, cap, cur, rfl, h1, hh, h2⟩
  · exact ⟨h.1, .inl ⟨rfl, h0⟩⟩
  · exact ⟨h.1, .inr ⟨g, cap, cur, rfl, h1, (hb.block g (Array.getElem?_eq_some_iff.1 hh).1).trans hh, h2⟩⟩

theorem Dg.zero {b : Nat} (hb : 2 ≤ b) (W : World) : Dg b W (.slice none 0 0) 0 := by
  unfold Dg
  rw [dg_zero]
  exact ⟨none, 0, rfl, Nat.le_refl _, Nat.zero_le _, Row.nil⟩

end Go.Proofs.YtekbfommnmikbaaGreatDoor
/- Texts of magnitudes; integers: sums. -/
namespace Go.Proofs.YtekbfommnmikbaaGreatDoor
set_option linter.unusedVariables false
set_option linter.unusedSimpArgs false
open Go.RowKit Go.Shelf Go.Proofs

theorem info_byte : (Tryz.prog.info? 5).map (fun i => (i.zero, i.size, i.bytes)) = some (some (.int .u8 0), 1, 1) := by kernel_rfl

end Go.Proofs.YtekbfommnmikbaaGreatDoor

namespace Go.Proofs.YtekbfommnmikbaaGreatDoor
set_option linter.unusedVariables false
set_option linter.unusedSimpArgs false
open Go.RowKit Go.Shelf Go.Proofs
attribute [local go_sem] Oper.semAt_some

theorem builder_below {T e : TypeId} {B b : Nat} {bs : List Value} {W W' : World} (h : Lib.IsBuilder T e B b bs W) (hb : Below W.heap.size W W') : Lib.IsBuilder T e B b bs W' := by
  have key : ∀ p, Lib.BuilderAt T e B b p bs W → Lib.BuilderAt T e B b p bs W' := by
    rintro p ⟨hB, v, hbk, hown, hne⟩
    exact ⟨hB, v, (hb.block b (Array.getElem?_eq_some_iff.1 hbk).1).trans hbk, own_below hown hb, hne⟩
  exact h.elim (fun x => .inl (key _ x)) (fun x => .inr (key _ x))
theorem heap_below {W W' : World} {b : Nat} {o : Obj} (h : W.heap[b]? = some o) (hb : Below W.heap.size W W') : W'.heap[b]? = some o := (hb.block b (Array.getElem?_eq_some_iff.1 h).1).trans h
theorem var_stay {P : Program} {W W' : World} {n : String} {cs : Array Value} (h : W.var? P n = some cs) (hb : Below W.heap.size W W') : W'.var? P n = some cs := by
  unfold World.var? at h ⊢
  cases hg : P.globalNamed n with
  | none => rw [hg] at h; cases h
  | some g =>
    rw [hg] at h
    simp only [Option.bind_some] at h ⊢
    have hlt : g < W.heap.size := by
      rcases Nat.lt_or_ge g W.heap.size with h' | h'
      · exact h'
      · rw [Array.getElem?_eq_none h'] at h; cases h
    rw [hb.block g hlt]
    exact h

/-- What the texts read of the tables that start-up code lays. -/
structure Tabs (w : World) : Prop where
  pow10 : Lib.TabIs Tryz.prog w "internal/strconv.uint64pow10" .u64 Lib.pow10Tab
  digit : Lib.TabIs Tryz.prog w "mjolner/number.digit" .u8 [48, 49, 50, 51, 52, 53, 54, 55, 56, 57, 97, 98, 99, 100, 101, 102, 103, 104, 105, 106, 107, 108, 109, 110, 111, 112, 113, 114, 115, 116, 117, 118, 119, 120, 121, 122]
  range : ∃ tp p, w.var? Tryz.prog "strconv.ErrRange" = some #[.iface tp p]
  syn : ∃ tp p, w.var? Tryz.prog "strconv.ErrSyntax" = some #[.iface tp p]
theorem Tabs.below {w w' : World} (h : Tabs w) (hb : Below w.heap.size w w') : Tabs w' :=
  ⟨var_stay h.pow10 hb, var_stay h.digit hb, h.range.imp fun _ h => h.imp fun _ h => var_stay h hb, h.syn.imp fun _ h => h.imp fun _ h => var_stay h hb⟩

/-- Where a round of String stands. -/
structure SB (B : Nat) (V : World) (v : Value) (bs : List Value) (V1 : World) : Prop where
  hp : V1.heap[B]? = some (.cells #[v] 134 (0, 0))
  hd : V1.heap[B + 1 + 1]? = some (.cells #[v] 134 (0, 0))
  bu : Lib.IsBuilder 166 5 B (B + 1) bs V1
  ov : Ov B (B + 1 + 1) V V1
theorem SB.call {B : Nat} {V : World} {v : Value} {bs : List Value} {V1 V2 : World} (h : SB B V v bs V1) (hb : Below V1.heap.size V1 V2) : SB B V v bs V2 :=
  ⟨heap_below h.hp hb, heap_below h.hd hb, builder_below h.bu hb, h.ov.call hb⟩
theorem SB.size {B : Nat} {V : World} {v : Value} {bs : List Value} {V1 : World} (h : SB B V v bs V1) : B ≤ V1.heap.size := by
  have := (Array.getElem?_eq_some_iff.1 h.hp).1
  omega

end Go.Proofs.YtekbfommnmikbaaGreatDoor

namespace Go.Proofs.YtekbfommnmikbaaGreatDoor
set_option linter.unusedVariables false
set_option linter.unusedSimpArgs false
open Go.RowKit
attribute [local go_sem] max2_int min2_int max_two min_two

end Go.Proofs.YtekbfommnmikbaaGreatDoor

namespace Go.Proofs.YtekbfommnmikbaaGreatDoor
set_option linter.unusedVariables false
set_option linter.unusedSimpArgs false
open Go.RowKit
attribute [local go_sem] max2_int min2_int max_two min_two

theorem Wh.zero {w : World} {v : Value} {z : Int} (h : Wh w v z) : WhN 0 w v z := by
  obtain ⟨p, e, hp⟩ := h
  exact ⟨p, e, hp, fun _ _ => Nat.zero_le _⟩
theorem nDigits_le {u k : Nat} (hk : 0 < k) : Lib.nDigits u ≤ k ↔ u < 10 ^ k := by
  constructor
  · intro h
    exact Nat.lt_of_lt_of_le (Lib.lt_pow_nDigits u) (Nat.pow_le_pow_right (by decide) h)
  · intro h
    rcases Nat.lt_or_ge k (Lib.nDigits u) with h' | h'
    · exfalso
      have key : ∀ k u, k < Lib.nDigits u → 0 < k → 10 ^ k ≤ u := by
        intro k
        induction k with
        | zero => intro u _ h; omega
        | succ k ih =>
          intro u h _
          by_cases hu : u < 10
          · rw [Lib.nDigits_small hu] at h; omega
          · rw [Lib.nDigits_big hu] at h
            rcases Nat.eq_zero_or_pos k with rfl | hk
            · simpa using (by omega : 10 ≤ u)
            · have := ih (u / 10) (by omega) hk
              rw [Nat.pow_succ]; omega
      have := key k u h' hk
      omega
    · exact h'

end Go.Proofs.YtekbfommnmikbaaGreatDoor
/- Plain mathematics of rounding to 12 digits. No program in sight. -/
namespace Go.Proofs.YtekbfommnmikbaaGreatDoor
set_option linter.unusedVariables false
set_option linter.unusedSimpArgs false

/-- The number of some digits, the greatest one first. -/
def vd : List Int → Int
  | [] => 0
  | d :: l => d * 10 ^ l.length + vd l
theorem vd_nil : vd [] = 0 := rfl
theorem vd_cons (d : Int) (l : List Int) : vd (d :: l) = d * 10 ^ l.length + vd l := rfl
theorem vd_append : ∀ (l m : List Int), vd (l ++ m) = vd l * 10 ^ m.length + vd m
  | [], m => by simp [vd]
  | d :: l, m => by
    rw [List.cons_append, vd_cons, vd_cons, vd_append l m, List.length_append, Int.pow_add]
    grind
theorem vd_snoc (l : List Int) (d : Int) : vd (l ++ [d]) = 10 * vd l + d := by
  rw [vd_append]; simp [vd]; omega
theorem vd_zeros (k : Nat) : vd (List.replicate k 0) = 0 := by
  induction k with
  | zero => rfl
  | succ k ih => rw [List.replicate_succ, vd_cons, ih]; omega
theorem vd_nonneg {l : List Int} (h : InR 10 l) : 0 ≤ vd l := by
  induction l with
  | nil => exact Int.le_refl _
  | cons d l ih =>
    have h1 := (h d (List.mem_cons_self ..)).1
    have h2 := ih h.tail
    have h3 : (0 : Int) ≤ 10 ^ l.length := Int.le_of_lt (Int.pow_pos (by omega))
    have := Int.mul_nonneg h1 h3
    rw [vd_cons]; omega
theorem vd_lt {l : List Int} (h : InR 10 l) : vd l < 10 ^ l.length := by
  induction l with
  | nil => show (0 : Int) < 1; omega
  | cons d l ih =>
    have h1 := (h d (List.mem_cons_self ..)).2
    have h2 := ih h.tail
    rw [vd_cons, List.length_cons, Int.pow_succ]
    have h3 : (0 : Int) < 10 ^ l.length := Int.pow_pos (by omega)
    have h4 : d ≤ 9 := by have : d < 10 := h1; omega
    have := Int.mul_le_mul_of_nonneg_right h4 (Int.le_of_lt h3)
    omega
theorem vd_rev (l : List Int) : vd l.reverse = val 10 l := by
  induction l with
  | nil => rfl
  | cons d l ih => rw [List.reverse_cons, vd_snoc, ih, val_cons]; omega
theorem vd_dg (n : Nat) : vd (dg 10 n).reverse = (n : Int) := by rw [vd_rev, val_dg (by decide)]
theorem inR_reverse {l : List Int} (h : InR 10 l) : InR 10 l.reverse := fun x hx => h x (List.mem_reverse.1 hx)
theorem vd_nat {l : List Int} (h : InR 10 l) : ((vd l).toNat : Int) = vd l := Int.toNat_of_nonneg (vd_nonneg h)

/-- How many digits. -/
def nd (n : Nat) : Nat := (dg 10 n).length
theorem nd_zero : nd 0 = 0 := by unfold nd; rw [dg_zero]; rfl
theorem nd_le (n k : Nat) : nd n ≤ k ↔ n < 10 ^ k := dg_length_le (by decide) n k
theorem nd_gt (n k : Nat) : k < nd n ↔ 10 ^ k ≤ n := dg_length_lt (by decide) n k
theorem nd_eq {n k : Nat} (h1 : 10 ^ k ≤ n) (h2 : n < 10 ^ (k + 1)) : nd n = k + 1 := by
  have a := (nd_gt n k).2 h1
  have b := (nd_le n (k + 1)).2 h2
  omega
theorem nd_pos {n : Nat} (h : 0 < n) : 0 < nd n := (nd_gt n 0).2 (by rw [Nat.pow_zero]; exact h)
theorem nd_mono {m n : Nat} (h : m ≤ n) : nd m ≤ nd n := dg_length_mono (by decide) h
theorem lt_nd (n : Nat) : n < 10 ^ nd n := (nd_le n _).1 (Nat.le_refl _)
theorem nd_low {n : Nat} (h : 0 < n) : 10 ^ (nd n - 1) ≤ n := (nd_gt n _).1 (by have := nd_pos h; omega)
theorem nd_pow {n : Nat} (h : 0 < n) (k : Nat) : nd (n * 10 ^ k) = nd n + k := by
  have a := nd_pos h
  have b := nd_low h
  have c := lt_nd n
  obtain ⟨j, hj⟩ : ∃ j, nd n = j + 1 := ⟨nd n - 1, by omega⟩
  rw [hj] at b c ⊢
  rw [show j + 1 - 1 = j from rfl] at b
  rw [show j + 1 + k = (j + k) + 1 by omega]
  refine nd_eq ?_ ?_
  · rw [Nat.pow_add]; exact Nat.mul_le_mul_right _ b
  · rw [show j + k + 1 = (j + 1) + k by omega, Nat.pow_add]; exact Nat.mul_lt_mul_of_pos_right c (Nat.pow_pos (by decide))
theorem nd_vd {d : Int} {l : List Int} (h : InR 10 (d :: l)) (hd : d ≠ 0) : nd (vd (d :: l)).toNat = l.length + 1 := by
  have h1 := vd_nat h
  have h2 := vd_lt h
  have h0 := (h d (List.mem_cons_self ..)).1
  have h3 := vd_nonneg h.tail
  have hp : (0 : Int) < 10 ^ l.length := Int.pow_pos (by omega)
  have h4 := Int.mul_le_mul_of_nonneg_right (show (1 : Int) ≤ d by omega) (Int.le_of_lt hp)
  refine nd_eq ?_ ?_
  · have : ((10 ^ l.length : Nat) : Int) ≤ ((vd (d :: l)).toNat : Int) := by rw [h1, vd_cons, Int.natCast_pow]; simp only [Int.cast_ofNat_Int]; omega
    exact_mod_cast this
  · have : ((vd (d :: l)).toNat : Int) < ((10 ^ (l.length + 1) : Nat) : Int) := by rw [h1, Int.natCast_pow]; exact h2
    exact_mod_cast this

/-- 1 if what stands behind a point is more than a half, or a half behind an odd number. -/
def halfUp (r k q : Nat) : Nat := if 10 ^ k < 2 * r ∨ (2 * r = 10 ^ k ∧ q % 2 = 1) then 1 else 0
/-- n / 10^k, rounded. -/
def rdiv (n k : Nat) : Nat := n / 10 ^ k + halfUp (n % 10 ^ k) k (n / 10 ^ k)
/-- The 12 digits. -/
def man12 (n : Nat) : Nat := if nd n < 12 then n * 10 ^ (12 - nd n) else rdiv n (nd n - 12)
/-- A Man and an exponent, after the carry; none if too large. -/
def fit (m : Nat) (x : Int) : Option (Nat × Int) := if m = 1000000000000 then (if 88 < x + 1 then none else some (100000000000, x + 1)) else if 88 < x then none else some (m, x)
/-- The rounded value of n times 10^e. -/
def rnd (n : Nat) (e : Int) : Option (Nat × Int) :=
  if n = 0 ∨ (nd n : Int) + e < -100 then some (0, 0)
  else if (nd n : Int) + e = -100 then (if 10 ^ nd n < 2 * n then some (100000000000, -111) else some (0, 0))
  else fit (man12 n) ((nd n : Int) - 12 + e)

theorem half_mul (r k q j : Nat) : halfUp (r * 10 ^ j) (k + j) q = halfUp r k q := by
  unfold halfUp
  have hp : 0 < 10 ^ j := Nat.pow_pos (by decide)
  have e1 : (10 ^ (k + j) < 2 * (r * 10 ^ j)) ↔ 10 ^ k < 2 * r := by
    rw [Nat.pow_add, ← Nat.mul_assoc]; exact Nat.mul_lt_mul_right hp
  have e2 : (2 * (r * 10 ^ j) = 10 ^ (k + j)) ↔ 2 * r = 10 ^ k := by
    rw [Nat.pow_add, ← Nat.mul_assoc]; exact ⟨fun h => Nat.eq_of_mul_eq_mul_right hp h, fun h => by rw [h]⟩
  simp only [e1, e2]
theorem rdiv_mul (n k j : Nat) : rdiv (n * 10 ^ j) (k + j) = rdiv n k := by
  unfold rdiv
  have hp : 0 < 10 ^ j := Nat.pow_pos (by decide)
  have e1 : n * 10 ^ j / 10 ^ (k + j) = n / 10 ^ k := by rw [Nat.pow_add]; exact Nat.mul_div_mul_right _ _ hp
  have e2 : n * 10 ^ j % 10 ^ (k + j) = n % 10 ^ k * 10 ^ j := by rw [Nat.pow_add]; exact Nat.mul_mod_mul_right _ _ _
  rw [e1, e2, half_mul]
theorem rdiv_zero (n : Nat) : rdiv n 0 = n := by unfold rdiv halfUp; simp [Nat.mod_one]
theorem man12_mul {n : Nat} (h : 0 < n) (j : Nat) : man12 (n * 10 ^ j) = man12 n := by
  unfold man12
  rw [nd_pow h]
  by_cases h1 : nd n + j < 12
  · rw [if_pos h1, if_pos (by omega), Nat.mul_assoc, ← Nat.pow_add]; congr 2; omega
  · rw [if_neg h1]
    by_cases h2 : nd n < 12
    · rw [if_pos h2]
      have e : n * 10 ^ j = n * 10 ^ (12 - nd n) * 10 ^ (nd n + j - 12) := by rw [Nat.mul_assoc, ← Nat.pow_add]; congr 2; omega
      have e2 := rdiv_mul (n * 10 ^ (12 - nd n)) 0 (nd n + j - 12)
      rw [Nat.zero_add] at e2
      rw [e, e2, rdiv_zero]
    · rw [if_neg h2, show nd n + j - 12 = (nd n - 12) + j by omega, rdiv_mul]
/-- Zeros at the end change nothing. -/
theorem rnd_mul (n j : Nat) (e : Int) : rnd (n * 10 ^ j) (e - j) = rnd n e := by
  by_cases h0 : n = 0
  · subst h0; simp [rnd]
  have h : 0 < n := by omega
  have hp : 0 < 10 ^ j := Nat.pow_pos (by decide)
  have hm : 0 < n * 10 ^ j := Nat.mul_pos h hp
  unfold rnd
  rw [nd_pow h, man12_mul h]
  have e1 : ((nd n + j : Nat) : Int) + (e - j) = (nd n : Int) + e := by omega
  have e2 : ((nd n + j : Nat) : Int) - 12 + (e - j) = (nd n : Int) - 12 + e := by omega
  have e3 : (10 ^ (nd n + j) < 2 * (n * 10 ^ j)) ↔ 10 ^ nd n < 2 * n := by
    rw [Nat.pow_add, ← Nat.mul_assoc]; exact Nat.mul_lt_mul_right hp
  have e4 : (n * 10 ^ j = 0) ↔ n = 0 := by omega
  simp only [e1, e2, e3, e4]

/-- What near makes of the digits behind a point. -/
def nearV (l : List Int) (q : Nat) : Nat := halfUp (vd l).toNat l.length q
theorem near_nil (q : Nat) : nearV [] q = 0 := by unfold nearV halfUp; simp [vd]
theorem near_less {d : Int} {l : List Int} (h : InR 10 (d :: l)) (hd : d < 5) (q : Nat) : nearV (d :: l) q = 0 := by
  unfold nearV halfUp
  have h1 := vd_nat h
  have h2 := vd_lt h.tail
  have hp : (0 : Int) < 10 ^ l.length := Int.pow_pos (by omega)
  have h4 := Int.mul_le_mul_of_nonneg_right (show d ≤ 4 by omega) (Int.le_of_lt hp)
  have h5 : 2 * ((vd (d :: l)).toNat : Int) < ((10 ^ (l.length + 1) : Nat) : Int) := by rw [h1, vd_cons, Int.natCast_pow, Int.pow_succ]; simp only [Int.cast_ofNat_Int]; omega
  have h6 : 2 * (vd (d :: l)).toNat < 10 ^ (l.length + 1) := by exact_mod_cast h5
  rw [List.length_cons]
  rw [if_neg (by omega)]
theorem near_more {d : Int} {l : List Int} (h : InR 10 (d :: l)) (hd : 5 < d ∨ (5 ≤ d ∧ 0 < vd l)) (q : Nat) : nearV (d :: l) q = 1 := by
  unfold nearV halfUp
  have h1 := vd_nat h
  have h2 := vd_nonneg h.tail
  have hp : (0 : Int) < 10 ^ l.length := Int.pow_pos (by omega)
  have h5 : ((10 ^ (l.length + 1) : Nat) : Int) < 2 * ((vd (d :: l)).toNat : Int) := by
    rw [h1, vd_cons, Int.natCast_pow, Int.pow_succ]; simp only [Int.cast_ofNat_Int]
    rcases hd with hd | ⟨hd, hv⟩
    · have h4 := Int.mul_le_mul_of_nonneg_right (show (6 : Int) ≤ d by omega) (Int.le_of_lt hp); omega
    · have h4 := Int.mul_le_mul_of_nonneg_right hd (Int.le_of_lt hp); omega
  have h6 : 10 ^ (l.length + 1) < 2 * (vd (d :: l)).toNat := by exact_mod_cast h5
  rw [List.length_cons, if_pos (.inl h6)]
theorem near_half {l : List Int} (hv : vd l = 0) (q : Nat) : nearV (5 :: l) q = if q % 2 = 1 then 1 else 0 := by
  unfold nearV halfUp
  have h5 : 2 * vd (5 :: l) = 10 ^ (l.length + 1) := by rw [vd_cons, hv, Int.pow_succ]; omega
  have hp : (0 : Int) < 10 ^ (l.length + 1) := Int.pow_pos (by omega)
  have h6 : 2 * ((vd (5 :: l)).toNat : Int) = ((10 ^ (l.length + 1) : Nat) : Int) := by rw [Int.toNat_of_nonneg (by omega), Int.natCast_pow]; exact h5
  have h7 : 2 * (vd (5 :: l)).toNat = 10 ^ (l.length + 1) := by exact_mod_cast h6
  rw [List.length_cons, h7]
  simp
theorem vd_some {l : List Int} (h : InR 10 l) : 0 < vd l ↔ ∃ x ∈ l, 0 < x := by
  induction l with
  | nil => simp [vd]
  | cons d l ih =>
    have hp : (0 : Int) < 10 ^ l.length := Int.pow_pos (by omega)
    have h0 := (h d (List.mem_cons_self ..)).1
    have h2 := vd_nonneg h.tail
    have h3 := Int.mul_nonneg h0 (Int.le_of_lt hp)
    rw [vd_cons]
    constructor
    · intro hv
      by_cases hd : 0 < d
      · exact ⟨d, List.mem_cons_self .., hd⟩
      · obtain rfl : d = 0 := by omega
        obtain ⟨x, hx, hx0⟩ := (ih h.tail).1 (by omega)
        exact ⟨x, List.mem_cons_of_mem _ hx, hx0⟩
    · rintro ⟨x, hx, hx0⟩
      rcases List.mem_cons.1 hx with rfl | hx
      · have := Int.mul_pos hx0 hp; omega
      · have := (ih h.tail).2 ⟨x, hx, hx0⟩; omega

/-- The digits cut behind the twelfth. -/
theorem rdiv_cut {l : List Int} (h : InR 10 l) (j : Nat) (hj : j ≤ l.length) :
    (vd (l.take j)).toNat + nearV (l.drop j) (vd (l.take j)).toNat = rdiv (vd l).toNat (l.length - j) := by
  have ht := vd_nat (h.take j)
  have hd := vd_nat (h.drop j)
  have hl := vd_nat h
  have hlt := vd_lt (h.drop j)
  have e : vd l = vd (l.take j) * 10 ^ (l.drop j).length + vd (l.drop j) := by
    have := vd_append (l.take j) (l.drop j)
    rw [List.take_append_drop] at this
    exact this
  obtain ⟨T, hT⟩ : ∃ T, (vd (l.take j)).toNat = T := ⟨_, rfl⟩
  obtain ⟨D, hD⟩ : ∃ D, (vd (l.drop j)).toNat = D := ⟨_, rfl⟩
  obtain ⟨N, hN⟩ : ∃ N, (vd l).toNat = N := ⟨_, rfl⟩
  rw [hT] at ht; rw [hD] at hd; rw [hN] at hl
  rw [← ht, ← hd, ← hl] at e
  rw [← hd] at hlt
  have hk : (l.drop j).length = l.length - j := by simp
  rw [hk] at e hlt
  have e' : N = T * 10 ^ (l.length - j) + D := by exact_mod_cast e
  have hlt' : D < 10 ^ (l.length - j) := by exact_mod_cast hlt
  unfold nearV rdiv
  rw [hT, hN, hD, hk]
  have hp : 0 < 10 ^ (l.length - j) := Nat.pow_pos (by decide)
  have q1 : N / 10 ^ (l.length - j) = T := by rw [e', Nat.mul_comm, Nat.mul_add_div hp, Nat.div_eq_of_lt hlt']; rfl
  have q2 : N % 10 ^ (l.length - j) = D := by rw [e', Nat.mul_comm, Nat.mul_add_mod, Nat.mod_eq_of_lt hlt']
  rw [q1, q2]

/-- Without the zeros ahead. -/
def strip : List Int → List Int
  | [] => []
  | d :: l => if d = 0 then strip l else d :: l
theorem strip_vd (l : List Int) : vd (strip l) = vd l := by
  induction l with
  | nil => rfl
  | cons d l ih =>
    unfold strip
    split
    · rename_i h; rw [ih, vd_cons, h]; omega
    · rfl
theorem strip_nil {l : List Int} (h : InR 10 l) : strip l = [] ↔ vd l = 0 := by
  induction l with
  | nil => simp [strip, vd]
  | cons d l ih =>
    unfold strip
    split
    · rename_i h0; rw [ih h.tail, vd_cons, h0]; omega
    · rename_i h0
      have h1 := (h d (List.mem_cons_self ..)).1
      have h2 := vd_nonneg h.tail
      have hp : (0 : Int) < 10 ^ l.length := Int.pow_pos (by omega)
      have h3 := Int.mul_pos (show 0 < d by omega) hp
      rw [vd_cons]
      constructor
      · intro e; cases e
      · intro e; omega
/-- The 12 digits and what near adds. -/
theorem man12_of {d : Int} {l p : List Int} (h : InR 10 (d :: l)) (hd : d ≠ 0) (hp : p = (d :: l) ++ List.replicate (12 - (l.length + 1)) 0) :
    InR 10 p ∧ 12 ≤ p.length ∧ (vd (p.take 12)).toNat + nearV (p.drop 12) (vd (p.take 12)).toNat = man12 (vd (d :: l)).toNat := by
  have hn := nd_vd h hd
  have hi : InR 10 p := by rw [hp]; exact h.append (InR.replicate (by decide) _)
  have hl : p.length = l.length + 1 + (12 - (l.length + 1)) := by rw [hp, List.length_append, List.length_replicate, List.length_cons]
  refine ⟨hi, by omega, ?_⟩
  have hv : (vd p).toNat = (vd (d :: l)).toNat * 10 ^ (12 - (l.length + 1)) := by
    have h1 := vd_nat hi
    have h2 := vd_nat h
    have e : vd p = vd (d :: l) * 10 ^ (12 - (l.length + 1)) := by rw [hp, vd_append, vd_zeros, List.length_replicate]; omega
    rw [← h1, ← h2] at e
    exact_mod_cast e
  rw [rdiv_cut hi 12 (by omega), hv, hl]
  unfold man12
  rw [hn]
  by_cases hc : l.length + 1 < 12
  · rw [if_pos hc, show l.length + 1 + (12 - (l.length + 1)) - 12 = 0 by omega, rdiv_zero]
  · rw [if_neg hc, show 12 - (l.length + 1) = 0 by omega, Nat.pow_zero, Nat.mul_one]

theorem half_le (r k q : Nat) : halfUp r k q ≤ 1 := by unfold halfUp; split <;> omega
theorem man12_rng {n : Nat} (h : 0 < n) : 100000000000 ≤ man12 n ∧ man12 n ≤ 1000000000000 := by
  have a := nd_low h
  have b := lt_nd n
  have hp := nd_pos h
  unfold man12
  split
  · rename_i hc
    obtain ⟨j, hj⟩ : ∃ j, nd n = j + 1 := ⟨nd n - 1, by omega⟩
    rw [hj] at a b hc ⊢
    have e1 : 10 ^ j * 10 ^ (12 - (j + 1)) = 100000000000 := by rw [← Nat.pow_add, show j + (12 - (j + 1)) = 11 by omega]
    have e2 : 10 ^ (j + 1) * 10 ^ (12 - (j + 1)) = 1000000000000 := by rw [← Nat.pow_add, show j + 1 + (12 - (j + 1)) = 12 by omega]
    have h1 := Nat.mul_le_mul_right (10 ^ (12 - (j + 1))) a
    have h2 := Nat.mul_le_mul_right (10 ^ (12 - (j + 1))) (Nat.le_of_lt b)
    rw [show j + 1 - 1 = j from rfl, e1] at h1
    rw [e2] at h2
    exact ⟨h1, h2⟩
  · rename_i hc
    obtain ⟨j, hj⟩ : ∃ j, nd n = j + 12 := ⟨nd n - 12, by omega⟩
    rw [hj] at a b ⊢
    rw [show j + 12 - 12 = j by omega]
    unfold rdiv
    have hh := half_le (n % 10 ^ j) j (n / 10 ^ j)
    have hq1 : 100000000000 ≤ n / 10 ^ j := by
      rw [Nat.le_div_iff_mul_le (Nat.pow_pos (by decide))]
      rw [show j + 12 - 1 = 11 + j by omega, Nat.pow_add] at a
      exact a
    have hq2 : n / 10 ^ j < 1000000000000 := by
      rw [Nat.div_lt_iff_lt_mul (Nat.pow_pos (by decide))]
      rw [show j + 12 = 12 + j by omega, Nat.pow_add] at b
      exact b
    omega
/-- A real's parts: 0, or 12 digits and an exponent that is not too great. -/
def RV (m : Nat) (x : Int) : Prop := (m = 0 ∧ x = 0) ∨ (100000000000 ≤ m ∧ m < 1000000000000 ∧ -111 ≤ x ∧ x ≤ 88)
theorem rnd_valid {n : Nat} {e : Int} {m : Nat} {x : Int} (h : rnd n e = some (m, x)) : RV m x := by
  unfold rnd at h
  split at h
  · cases h; exact .inl ⟨rfl, rfl⟩
  · rename_i h1
    split at h
    · split at h
      · cases h; exact .inr ⟨by omega, by omega, by omega, by omega⟩
      · cases h; exact .inl ⟨rfl, rfl⟩
    · rename_i h2
      have := man12_rng (n := n) (by omega)
      unfold fit at h
      split at h
      · split at h
        · cases h
        · cases h; exact .inr ⟨by omega, by omega, by omega, by omega⟩
      · split at h
        · cases h
        · cases h; exact .inr ⟨by omega, by omega, by omega, by omega⟩
theorem rnd_zero (e : Int) : rnd 0 e = some (0, 0) := by unfold rnd; rw [if_pos (.inl rfl)]
theorem nd_man {m : Nat} (h1 : 100000000000 ≤ m) (h2 : m < 1000000000000) : nd m = 12 := nd_eq (k := 11) h1 h2
/-- 12 digits are rounded already. -/
theorem rnd_man {m : Nat} (h1 : 100000000000 ≤ m) (h2 : m < 1000000000000) (e : Int) :
    rnd m e = if e < -112 then some (0, 0) else if e = -112 then (if 500000000000 < m then some (100000000000, -111) else some (0, 0)) else if 88 < e then none else some (m, e) := by
  have hn := nd_man h1 h2
  have hm : man12 m = m := by unfold man12; rw [hn, if_neg (by omega), rdiv_zero]
  unfold rnd fit
  rw [hn, hm]
  by_cases c1 : e < -112
  · rw [if_pos (by omega), if_pos c1]
  · rw [if_neg (by omega), if_neg c1]
    by_cases c2 : e = -112
    · rw [if_pos (by omega), if_pos c2]
      by_cases c3 : 500000000000 < m
      · rw [if_pos c3, if_pos (by show 1000000000000 < _; omega)]
      · rw [if_neg c3, if_neg (by show ¬ 1000000000000 < _; omega)]
    · rw [if_neg (by omega), if_neg c2, if_neg (by omega), show ((12 : Nat) : Int) - 12 + e = e by omega]
theorem rnd_self {m : Nat} {x : Int} (h : RV m x) : rnd m x = some (m, x) := by
  rcases h with ⟨rfl, rfl⟩ | ⟨h1, h2, h3, h4⟩
  · exact rnd_zero _
  · rw [rnd_man h1 h2, if_neg (by omega), if_neg (by omega), if_neg (by omega)]

end Go.Proofs.YtekbfommnmikbaaGreatDoor
/- Plain mathematics of exact results: columns, quotients, roots. No program in sight. -/
namespace Go.Proofs.YtekbfommnmikbaaGreatDoor
set_option linter.unusedVariables false
set_option linter.unusedSimpArgs false

/-- All columns are small. -/
def TB (B : Int) (t : List Int) : Prop := ∀ x ∈ t, -B ≤ x ∧ x ≤ B
theorem TB.at_ {B : Int} {t : List Int} (h : TB B t) (hB : 0 ≤ B) (j : Nat) : -B ≤ t[j]?.getD 0 ∧ t[j]?.getD 0 ≤ B := by
  rcases Nat.lt_or_ge j t.length with hj | hj
  · rw [List.getElem?_eq_getElem hj]; exact h _ (List.getElem_mem hj)
  · rw [List.getElem?_eq_none hj]; exact ⟨by simp; omega, hB⟩
theorem TB.set {B C : Int} {t : List Int} (h : TB B t) (hBC : B ≤ C) (j : Nat) {x : Int} (h1 : -C ≤ x) (h2 : x ≤ C) : TB C (t.set j x) := fun y hy => by
  rcases List.mem_or_eq_of_mem_set hy with h3 | rfl
  · have := h y h3; exact ⟨by omega, by omega⟩
  · exact ⟨h1, h2⟩
theorem TB.mono {B C : Int} {t : List Int} (h : TB B t) (hBC : B ≤ C) : TB C t := fun y hy => by have := h y hy; exact ⟨by omega, by omega⟩
theorem TB.zeros (n : Nat) : TB 0 (List.replicate n 0) := fun x hx => by rw [(List.mem_replicate.1 hx).2]; exact ⟨by omega, by omega⟩
/-- One digit is entered. -/
theorem enter_val {t : List Int} {i : Nat} (hi : i < t.length) (y : Int) : val 10 (t.set i (t[i]?.getD 0 + y)) = val 10 t + 10 ^ i * y := by
  rw [val_set 10 t i _ hi, List.getD_eq_getElem?_getD]
  congr 2
  omega
theorem enter_step {t : List Int} {ds : List Int} {i k L : Nat} {V0 f d : Int} (hL : ds.length = L) (hi : i < L) (hd : ds[i]?.getD 0 = d) (hk : k + (L - 1 - i) < t.length)
    (hv : val 10 t = V0 + f * vd (ds.take i) * 10 ^ (k + (L - i))) :
    val 10 (t.set (k + (L - 1 - i)) (t[k + (L - 1 - i)]?.getD 0 + f * d)) = V0 + f * vd (ds.take (i + 1)) * 10 ^ (k + (L - (i + 1))) := by
  rw [enter_val hk, hv]
  have e : ds.take (i + 1) = ds.take i ++ [d] := by
    rw [List.take_add_one, ← hd, List.getElem?_eq_getElem (by omega)]; rfl
  rw [e, vd_snoc, show k + (L - i) = (k + (L - 1 - i)) + 1 by omega, show k + (L - (i + 1)) = k + (L - 1 - i) by omega, Int.pow_succ]
  grind

/-- The columns are brought to digits. -/
theorem carry_step {t u : List Int} {i : Nat} {V o n : Int} (hi : i < t.length) (hl : u.length = i) (hu : InR 10 u) (hv : val 10 u + 10 ^ i * (o + val 10 (t.drop i)) = V) (hn : n = t[i]?.getD 0 + o) :
    InR 10 (u ++ [n - 10 * (n.fdiv 10)]) ∧ val 10 (u ++ [n - 10 * (n.fdiv 10)]) + 10 ^ (i + 1) * (n.fdiv 10 + val 10 (t.drop (i + 1))) = V := by
  have h1 : n - 10 * (n.fdiv 10) = n.fmod 10 := by have := Int.mul_fdiv_add_fmod n 10; omega
  have h2 : 0 ≤ n.fmod 10 := Int.fmod_nonneg_of_pos _ (by decide)
  have h3 : n.fmod 10 < 10 := Int.fmod_lt_of_pos _ (by decide)
  refine ⟨hu.snoc (by omega) (by show n - 10 * n.fdiv 10 < 10; omega), ?_⟩
  rw [val_snoc, hl, ← hv, val_drop 10 t i hi, List.getD_eq_getElem?_getD, Int.pow_succ]
  have e : t[i]?.getD 0 = n - o := by omega
  rw [e]
  show _ = _
  have : ((10 : Nat) : Int) = 10 := rfl
  rw [this]
  grind
theorem carry_end {t u : List Int} {L : Nat} {V o : Int} (hl : u.length = L) (ht : t.length = L) (hu : InR 10 u) (hv : val 10 u + 10 ^ L * (o + val 10 (t.drop L)) = V) : val 10 u + 10 ^ L * o = V := by
  rw [List.drop_eq_nil_of_le (by omega), val_nil] at hv
  rw [← hv]; simp
theorem carry_over {u : List Int} {L : Nat} {V o : Int} (hl : u.length = L) (hu : InR 10 u) (hv : val 10 u + 10 ^ L * o = V) : (0 ≤ V → V < 10 ^ L → o = 0 ∧ val 10 u = V) ∧ (V < 0 → -(10 ^ L) ≤ V → o = -1 ∧ val 10 u = V + 10 ^ L) := by
  have h1 := val_nonneg hu
  have h2 : val 10 u < 10 ^ L := by have := val_lt hu; rw [hl] at this; exact this
  have hp : (0 : Int) < 10 ^ L := Int.pow_pos (by omega)
  generalize (10 : Int) ^ L = P at *
  constructor
  · intro a b
    have c1 : ¬ 1 ≤ o := fun c => by have := Int.mul_le_mul_of_nonneg_left c (Int.le_of_lt hp); omega
    have c2 : ¬ o ≤ -1 := fun c => by have := Int.mul_le_mul_of_nonneg_left c (Int.le_of_lt hp); omega
    obtain rfl : o = 0 := by omega
    exact ⟨rfl, by omega⟩
  · intro a b
    have c1 : ¬ 0 ≤ o := fun c => by have := Int.mul_le_mul_of_nonneg_left c (Int.le_of_lt hp); omega
    have c2 : ¬ o ≤ -2 := fun c => by have := Int.mul_le_mul_of_nonneg_left c (Int.le_of_lt hp); omega
    obtain rfl : o = -1 := by omega
    exact ⟨rfl, by omega⟩
theorem val_neg (b : Nat) (l : List Int) : val b (l.map fun x => -x) = -val b l := by
  induction l with
  | nil => rfl
  | cons d l ih => rw [List.map_cons, val_cons, val_cons, ih]; grind
/-- The digits of the magnitude, in L columns. -/
theorem total_pos {u : List Int} {L : Nat} {V : Int} (hu : InR 10 u) (hv : val 10 u = V) : InR 10 u.reverse ∧ vd u.reverse = V := ⟨inR_reverse hu, by rw [vd_rev, hv]⟩

/-- A root's digits: R is the root of P, S what is left. -/
def RootAt (P R S : Nat) : Prop := R * R + S = P ∧ S ≤ 2 * R
theorem rootAt_zero : RootAt 0 0 0 := ⟨rfl, Nat.le_refl _⟩
theorem rootAt_step {P R S p d : Nat} (h : RootAt P R S) (hp : p < 100) (hd : d ≤ 9) (h1 : (20 * R + d) * d ≤ S * 100 + p) (h2 : d = 9 ∨ S * 100 + p < (20 * R + (d + 1)) * (d + 1)) :
    RootAt (P * 100 + p) (10 * R + d) (S * 100 + p - (20 * R + d) * d) := by
  obtain ⟨e, hs⟩ := h
  have e1 : (10 * R + d) * (10 * R + d) = 100 * (R * R) + (20 * R + d) * d := by grind
  refine ⟨by rw [e1]; omega, ?_⟩
  rcases h2 with rfl | h2
  · have : (20 * R + 9) * 9 = 180 * R + 81 := by omega
    omega
  · have : (20 * R + (d + 1)) * (d + 1) = (20 * R + d) * d + (20 * R + d) + (d + 1) := by grind
    omega
theorem rootAt_le {P R S : Nat} (h : RootAt P R S) : R * R ≤ P ∧ P < (R + 1) * (R + 1) := by
  obtain ⟨e, hs⟩ := h
  have : (R + 1) * (R + 1) = R * R + 2 * R + 1 := by grind
  omega
end Go.Proofs.YtekbfommnmikbaaGreatDoor
/- Package real: the digits of an int; near. -/
namespace Go.Proofs.YtekbfommnmikbaaGreatDoor
set_option linter.unusedVariables false
set_option linter.unusedSimpArgs false
open Go.RowKit Go.Shelf Go.Proofs Go.Sort

theorem ret_i {k : IntKind} {a b : Int} (h : a = b) : Ending.returned (.int k a) = .returned (.int k b) := by rw [h]
theorem size_c (n : Int) (w : World) (h0 : -9223372036854775807 ≤ n) (h1 : n ≤ 9223372036854775807) :
    Calls Tryz.prog 100 #[.int .i64 n] w fun e w' => e = .returned (.int .i64 (n.natAbs : Int)) ∧ w = w' := by
  by_cases h : n < 0
  · go_enter Tryz.func100, Tryz.ntmps100
    go_wp2
    go_ret
    exact ⟨ret_i (by omega), rfl⟩
  · go_enter Tryz.func100, Tryz.ntmps100
    go_wp2
    go_ret
    exact ⟨ret_i (by omega), rfl⟩

/-- Bytes (as numbers) turned around. -/
theorem revb_c (g cap : Nat) (l : List Int) (w : World) (hc : ∀ j, j < l.length → w.cell? ⟨g, j, none⟩ = some (.int .u8 (l[j]?.getD 0))) (hf : ∀ j, w.frozen? ⟨g, j, none⟩ = false) (hl : l.length ≤ 9223372036854775807) :
    Calls Tryz.prog 156 #[.slice (some ⟨g, 0, none⟩) l.length cap] w fun e w' => e = .returned (.tuple #[]) ∧ (∀ j, j < l.length → w'.cell? ⟨g, j, none⟩ = some (.int .u8 (l.reverse[j]?.getD 0))) ∧ (∀ k w0, k ≤ g → Below k w0 w → Below k w0 w') := by
  have h0 : Holds (Value.int .u8) w g 0 l.toArray := fun j hj => by
    have hj' : j < l.length := by simpa using hj
    rw [Nat.zero_add]
    refine ⟨?_, hf j⟩
    rw [hc j hj', getElem!_pos _ j hj, List.getElem?_eq_getElem hj']
    simp
  have h := AnyE.slices_Reverse Tryz.laysRev (Value.int .u8) (fun _ => rfl) g 0 cap l w h0 hl
  refine (show Calls Tryz.prog 156 #[.slice (some ⟨g, 0, none⟩) l.length cap] w _ from h).mono ?_
  rintro e w' ⟨rfl, n, rfl⟩
  refine ⟨rfl, fun j hj => ?_, fun k w0 hk hb => ⟨hb.os, hb.tape, hb.output, by simpa [Sort.ahead] using hb.size, fun i hi => ?_⟩⟩
  · have hj' : j < l.reverse.toArray.size := by simpa using hj
    have h1 := cell?_putRow (Value.int .u8) (Sort.ahead w n) g 0 l.toArray l.reverse.toArray h0 (by simp) j hj'
    rw [Nat.zero_add] at h1
    rw [h1, getElem!_pos _ j hj', List.getElem?_eq_getElem (by simpa using hj)]
    simp
  · rw [← hb.block i hi]
    simp only [putRow, mapBlock, Sort.ahead, Array.getElem?_modify]
    rw [if_neg (by omega)]
theorem revn_c (a : Option Addr) (cap : Nat) (w : World) : Calls Tryz.prog 156 #[.slice a 0 cap] w fun e w' => e = .returned (.tuple #[]) ∧ w' = w :=
  AnyE.slices_Reverse_empty Tryz.laysRev a cap w

theorem own_some' {w : World} {B : Nat} {t : TypeId} {v : Value} {n : Nat} {xs : List Value} (h : w.ownsRow B t 1 v n xs) (hn : 0 < n) : ∃ g cap, v = .slice (some ⟨g, 0, none⟩) n cap := by
  rcases h.2 with ⟨_, h0⟩ | ⟨g, cap, cur, rfl, _⟩
  · omega
  · exact ⟨g, cap, rfl⟩

/-- A call returns new digits ds. -/
def DsP (ds : List Int) (w : World) (e : Ending) (w' : World) : Prop := ∃ v, e = .returned v ∧ Sl .u8 w' v ds ∧ FromB w.heap.size v ∧ Below w.heap.size w w'

set_option maxRecDepth 100000 in
set_option maxHeartbeats 2000000 in
theorem digitsOf_c (n : Nat) (w : World) (hn : n < 10 ^ 18) : Calls Tryz.prog 89 #[.int .i64 (n : Int)] w (DsP (dg 10 n).reverse w) := by
  have HLEN : Hid ((dg 10 n).length ≤ 18) := (dg_length_le (by decide) n 18).2 hn
  obtain ⟨i0, hi, hz0, hz1, hz2⟩ := info_parts info_byte
  have HI := Lib.hid (And.intro hi (And.intro hz0 (And.intro hz1 hz2)))
  clear hi hz0 hz1 hz2
  have hn2 : n ≤ 9223372036854775807 := by omega
  clear hn
  go_enter Tryz.func89, Tryz.ntmps89
  go_wp2_with fail
  go_loopg [0, 3] n (fun g nv lv wr => ∃ (l : List Int), nv = .int .i64 (g : Int) ∧ g ≤ n ∧ Hid (wr.ownsRow w.heap.size 5 1 lv l.length (l.map (Value.int .u8))) ∧ Hid (l ++ dg 10 g = dg 10 n) ∧ Hid (Below w.heap.size w wr))
  case atStart => exact ⟨[], rfl, Nat.le_refl _, World.ownsRow_nil _ _ _ _, rfl, Below.refl _ _⟩
  case round =>
    obtain ⟨l, rfl, hgn, HOW, HL, HB⟩ := hrel
    have hll : l.length ≤ 18 := by have h1 := congrArg List.length HL.out; rw [List.length_append] at h1; have := HLEN.out; omega
    have hsz := HB.out.size
    by_cases hg0 : gk = 0
    · subst hg0
      have hl := HL.out
      rw [dg_zero, List.append_nil] at hl
      subst hl
      have HFR := Lib.hid (own_from HOW.out)
      by_cases hp : (dg 10 n).length = 0
      · obtain ⟨A, c, rfl⟩ : ∃ A c, u3 = .slice A 0 c := by
          rcases HOW.out.2 with ⟨h, _⟩ | ⟨g, cap, cur, h, _⟩
          · exact ⟨none, 0, h⟩
          · exact ⟨_, cap, by rw [h, hp]⟩
        have hcap : c ≤ 9223372036854775807 := by
          obtain ⟨A', c', e, h1, h2, -, -⟩ := own_row HOW.out
          have e2 := (Value.slice.inj e).2.2
          unfold maxLen at h2; omega
        have HNIL : Hid (dg 10 n = []) := List.eq_nil_of_length_eq_zero hp
        clear hp HL HLEN HOW
        go_wp2_with (go_at_call 156; refine (revn_c _ _ _).mono ?_; rintro e w' ⟨rfl, rfl⟩)
        go_ret
        rw [HNIL.out]
        exact ⟨_, rfl, ⟨A, c, rfl, Nat.zero_le _, hcap, Row.nil⟩, HFR.out, HB.out⟩
      · obtain ⟨g, cap, rfl⟩ := own_some' HOW.out (by omega)
        have hcs : Hid (∀ j, j < (dg 10 n).length → wr.cell? ⟨g, j, none⟩ = some (.int .u8 ((dg 10 n)[j]?.getD 0))) := fun j hj => by
          obtain ⟨A', c', e, -, -, hr, -⟩ := own_row HOW.out
          cases e
          obtain ⟨a, e, hc⟩ := hr j hj
          cases e
          rw [add_lit, Nat.zero_add] at hc
          exact hc
        have hcap : (dg 10 n).length ≤ cap ∧ cap ≤ 9223372036854775807 := by
          obtain ⟨A', c', e, h1, h2, -, -⟩ := own_row HOW.out
          cases e; unfold maxLen at h2; exact ⟨h1, by omega⟩
        have hgb := (HOW.out.lt g rfl).1
        have hfz := Lib.hid (fun j => HOW.out.frozenAt j)
        have hcap1 := hcap.1; have hcap2 := hcap.2
        clear hp HL hcap
        go_wp2_with (go_at_call 156; refine (revb_c g cap (dg 10 n) _ hcs.out hfz.out (by omega)).mono ?_; rintro e w2 ⟨rfl, hc2, hb2⟩; have HC2 := Lib.hid hc2; have HB2 := Lib.hid (hb2 _ _ hgb HB.out); clear hc2 hb2)
        go_ret
        refine ⟨_, rfl, ⟨some ⟨g, 0, none⟩, cap, by rw [List.length_reverse]; rfl, by rw [List.length_reverse]; exact hcap1, hcap2, fun j hj => ⟨_, rfl, ?_⟩⟩, HFR.out, HB2.out⟩
        rw [add_lit, Nat.zero_add]
        exact HC2.out j (by simpa using hj)
    · obtain ⟨d, hd⟩ : ∃ d, gk % 10 = d := ⟨_, rfl⟩
      have hd9 : d < 10 := by omega
      have HDG : Hid (dg 10 gk = (d : Int) :: dg 10 (gk / 10)) := by show _ = _; rw [dg_pos (by decide) (by omega), ← hd]
      have T : (gk : Int) % 10 = (d : Int) := by omega
      have hwr : IntKind.u8.wrap (d : Int) = (d : Int) := by rw [show IntKind.u8.wrap (d : Int) = (d : Int) % 256 from rfl]; omega
      have hgp : (0 : Int) < (gk : Int) := by omega
      have hgm : (gk : Int) ≤ 9223372036854775807 := by omega
      clear hd
      go_wp2_with (at_builtin; refine wpList_append_own _ rfl _ _ 93 rfl w.heap.size 5 i0 (.int .u8 0) 1 1 Tryz.underlying93 HI.out.1 HI.out.2.1 HI.out.2.2.1 HI.out.2.2.2 rfl (by decide) _ _ _ rfl (HOW.out.alloc _) ⟨wr.heap.size, 0, none⟩ 1 1 [.int .u8 (d : Int)] rfl rfl (cell_one_new _ _ _) (by simp [Value.oneCell']) (by unfold maxLen; omega) (by omega) (by simp; omega) ?_; intro v' w1 hown1 hgrow1 _; have HO1 := Lib.hid hown1; have HG1 := Lib.hid hgrow1; clear hown1 hgrow1)
      go_roundg (gk / 10)
      case measure => omega
      case rel =>
        refine ⟨l ++ [(d : Int)], by go_num, by omega, ?_, ?_, ?_⟩
        · have h1 := HO1.out
          rw [List.map_append, List.length_append]; exact h1
        · show _ = _
          rw [List.append_assoc, List.singleton_append, ← HL.out, HDG.out]
        · exact (HB.out.alloc hsz _).grown HG1.out (by simp; omega) ((own_from HOW.out).mono (by omega))

/-- What the callers of near give: whether some digit is not 0. -/
theorem nearf_c (x : Int) (w : World) : Calls Tryz.prog 158 #[.int .u8 x] w fun e w' => e = .returned (.bool (decide (0 < x))) ∧ w = w' := by
  go_enter Tryz.func158, Tryz.ntmps158
  go_wp2
  go_ret
  exact ⟨rfl, rfl⟩
theorem drop_take {l : List Int} {k : Nat} (h : k < l.length) : l.take (k + 1) = l.take k ++ [l[k]?.getD 0] := by
  rw [List.take_add_one, List.getElem?_eq_getElem h]; rfl

set_option maxRecDepth 100000 in
set_option maxHeartbeats 1000000 in
theorem indexf_c (A : Option Addr) (c : Nat) (l : List Int) (w : World) (hr : Row .u8 w A l) (hl : l.length ≤ 9223372036854775807) :
    Calls Tryz.prog 203 #[.slice A l.length c, .func (.func 158) #[] #[]] w fun e w' => (∃ i : Int, e = .returned (.int .i64 i) ∧ (0 ≤ i ↔ ∃ x ∈ l, 0 < x)) ∧ w = w' := by
  have HR := Lib.hid hr
  clear hr
  go_enter Tryz.func203, Tryz.ntmps203
  go_wp2_with fail
  go_loopg [8] l.length (fun g iv wr => ∃ k : Nat, iv = .int .i64 (k : Int) ∧ k + g = l.length ∧ Hid (∀ x ∈ l.take k, ¬ 0 < x) ∧ wr = w)
  case atStart => exact ⟨0, rfl, by omega, fun x hx => by simp at hx, rfl⟩
  case round =>
    obtain ⟨k, rfl, hk, HZ, rfl⟩ := hrel
    by_cases hlt : k < l.length
    · obtain ⟨a, rfl, hcell⟩ := HR.out k hlt
      have HT := Lib.hid (drop_take hlt)
      have HM : Hid (l[k]?.getD 0 ∈ l) := by show _ ∈ _; rw [List.getElem?_eq_getElem hlt]; exact List.getElem_mem hlt
      obtain ⟨x, hx⟩ : ∃ x, l[k]?.getD 0 = x := ⟨_, rfl⟩
      rw [hx] at hcell HT HM
      have HK := Lib.hid hk
      clear hx hk
      by_cases hx0 : 0 < x
      · have hb : decide (0 < x) = true := decide_eq_true hx0
        go_wp2_with (go_at_call 158; refine (nearf_c x _).mono ?_; rintro e w' ⟨he, rfl⟩; rw [hb] at he; subst he)
        go_ret
        exact ⟨⟨_, rfl, fun _ => ⟨x, HM.out, hx0⟩, fun _ => by omega⟩, rfl⟩
      · have hb : decide (0 < x) = false := decide_eq_false hx0
        go_wp2_with (go_at_call 158; refine (nearf_c x _).mono ?_; rintro e w' ⟨he, rfl⟩; rw [hb] at he; subst he)
        go_roundg (gk - 1)
        case measure => have := HK.out; omega
        case rel =>
          refine ⟨k + 1, by go_num, by have := HK.out; omega, fun y hy => ?_, rfl⟩
          rw [HT.out] at hy
          rcases List.mem_append.1 hy with hy | hy
          · exact HZ.out y hy
          · rw [List.mem_singleton.1 hy]; exact hx0
    · have HN : Hid (¬ ∃ x ∈ l, 0 < x) := by
        rintro ⟨x, hx, h0⟩
        exact HZ.out x (by rw [List.take_of_length_le (by omega)]; exact hx) h0
      go_wp2_with fail
      go_ret
      exact ⟨⟨_, rfl, fun h => by omega, fun h => absurd h HN.out⟩, rfl⟩

theorem containsf_c (A : Option Addr) (c : Nat) (l : List Int) (b : Bool) (w : World) (hr : Row .u8 w A l) (hl : l.length ≤ 9223372036854775807) (hb : b = true ↔ ∃ x ∈ l, 0 < x) :
    Calls Tryz.prog 157 #[.slice A l.length c, .func (.func 158) #[] #[]] w fun e w' => e = .returned (.bool b) ∧ w = w' := by
  have HR := Lib.hid hr; have HL := Lib.hid hl; have HBB := Lib.hid hb
  clear hr hl hb
  go_enter Tryz.func157, Tryz.ntmps157
  go_wp2_with (go_at_call 203; refine (indexf_c A c l _ HR.out HL.out).mono ?_; rintro e w' ⟨⟨i, rfl, hi⟩, rfl⟩; have HI := Lib.hid hi; clear hi)
  go_ret
  refine ⟨?_, rfl⟩
  rw [show b = decide (0 ≤ i) from by rw [Bool.eq_iff_iff, HBB.out, decide_eq_true_iff]; exact HI.out.symm]
  rfl

end Go.Proofs.YtekbfommnmikbaaGreatDoor
/- Package real: near, put, copies of digits. -/
namespace Go.Proofs.YtekbfommnmikbaaGreatDoor
set_option linter.unusedVariables false
set_option linter.unusedSimpArgs false
open Go.RowKit Go.Shelf Go.Proofs Go.Sort

theorem add_zero (a : Addr) : a.add 0 = a := rfl
theorem add_one (a : Addr) (j : Nat) : (⟨a.block, a.off + 1, none⟩ : Addr).add j = a.add (j + 1) := by
  unfold Addr.add
  rw [if_neg (show ¬ j + 1 = 0 by omega)]
  split
  · rename_i h; subst h; rfl
  · simp; omega
theorem row_tail {k : IntKind} {w : World} {a : Addr} {d : Int} {t : List Int} (h : Row k w (some a) (d :: t)) : Row k w (some ⟨a.block, a.off + 1, none⟩) t := fun j hj => by
  obtain ⟨a', e, hc⟩ := h (j + 1) (by simpa using hj)
  cases e
  exact ⟨_, rfl, by rw [add_one]; simpa using hc⟩

set_option maxRecDepth 100000 in
set_option maxHeartbeats 1000000 in
theorem near_c (A : Option Addr) (c : Nat) (l : List Int) (q : Nat) (w : World) (hr : Row .u8 w A l) (hc : l.length ≤ c) (hm : c ≤ 9223372036854775807) (hi : InR 10 l) (hq : q < 10 ^ 13) :
    Calls Tryz.prog 90 #[.slice A l.length c, .int .i64 (q : Int)] w fun e w' => e = .returned (.int .i64 (nearV l q : Int)) ∧ w = w' := by
  cases l with
  | nil =>
    rw [near_nil]
    clear hr hi
    go_enter Tryz.func90, Tryz.ntmps90
    go_wp2_with fail
    go_ret
    exact ⟨rfl, rfl⟩
  | cons d t =>
    obtain ⟨a, rfl, hcell⟩ := hr 0 (by simp)
    have hcell : w.cell? a = some (.int .u8 d) := by have h0 : w.cell? (a.add 0) = some (.int .u8 d) := hcell; rwa [add_zero] at h0
    have hne : ((t.length : Int) + 1 == 0) = false := by rw [beq_eq_false_iff_ne]; omega
    rw [List.length_cons] at *
    by_cases hd : d < 5
    · rw [near_less hi hd]
      clear hr hi
      go_enter Tryz.func90, Tryz.ntmps90
      go_wp2_with fail
      go_ret
      exact ⟨rfl, rfl⟩
    · have HDV := Lib.hid (near_more hi)
      have HHF := Lib.hid (fun hv : vd t = 0 => near_half hv q)
      obtain ⟨b, hb⟩ : ∃ b, decide (0 < vd t) = b := ⟨_, rfl⟩
      have HCB : Hid (b = true ↔ ∃ x ∈ t, 0 < x) := by show _ ↔ _; rw [← hb, decide_eq_true_iff]; exact vd_some hi.tail
      have HVN := Lib.hid (vd_nonneg hi.tail)
      have HB := Lib.hid hb
      have HD := Lib.hid hd
      have hd5 : ¬ (d < 5) := hd
      have HRT := Lib.hid (row_tail hr)
      have hm0 : (0 : Int) ≤ (q : Int) := by omega
      have hm1 : (q : Int) ≤ 9223372036854775807 := by omega
      have hq2 := Nat.mod_two_eq_zero_or_one q
      obtain ⟨r, hr2⟩ : ∃ r, q % 2 = r := ⟨_, rfl⟩
      rw [hr2] at hq2
      have T : (q : Int) % 2 = (r : Int) := by omega
      have HR2 := Lib.hid hr2
      obtain ⟨L, hL⟩ : ∃ L, t.length = L := ⟨_, rfl⟩
      rw [hL] at hc hne ⊢
      have HL := Lib.hid hL
      have HC2 : Hid (∀ c', Calls Tryz.prog 157 #[.slice (some ⟨a.block, a.off + 1, none⟩) L c', .func (.func 158) #[] #[]] w fun e w' => e = .returned (.bool b) ∧ w = w') := fun c' => by
        rw [← HL.out]; exact containsf_c _ c' t b w HRT.out (by rw [HL.out]; omega) HCB.out
      have HC3 : Hid (c = 1 → Calls Tryz.prog 157 #[.slice (some a) L 0, .func (.func 158) #[] #[]] w fun e w' => e = .returned (.bool b) ∧ w = w') := fun h1 => by
        obtain rfl : t = [] := List.eq_nil_of_length_eq_zero (by rw [HL.out]; omega)
        rw [← HL.out]
        exact containsf_c _ 0 [] b w Row.nil (by simp) HCB.out
      have HEND : Hid (nearV (d :: t) q = if d = 5 ∧ b = false then (if r = 1 then 1 else 0) else 1) := by
        show _ = _
        by_cases h5 : d = 5 ∧ b = false
        · rw [if_pos h5]
          have hv : vd t = 0 := by have := h5.2; rw [← hb, decide_eq_false_iff_not] at this; have := HVN.out; omega
          rw [h5.1, near_half hv, hr2]
        · rw [if_neg h5]
          refine near_more hi ?_ q
          cases b with
          | false => exact .inl (by have h6 : ¬ d = 5 := fun e => h5 ⟨e, rfl⟩; omega)
          | true => exact .inr ⟨by omega, by simpa using hb⟩
      rw [HEND.out]
      clear hr hi hb hr2 hL hd HEND
      by_cases h5 : d = 5
      · subst h5
        have h56 : decide ((5 : Int) < 5) = false := by decide
        cases b
        · rcases hq2 with rfl | rfl
          · go_enter Tryz.func90, Tryz.ntmps90
            go_wp2_with (first
              | (go_at_call 157; (with_reducible refine (HC2.out _).mono ?_); rintro e w' ⟨rfl, rfl⟩)
              | (go_at_call 157; (with_reducible refine (HC3.out ?_).mono ?_); assumption; rintro e w' ⟨rfl, rfl⟩))
            all_goals
              go_ret
              exact ⟨rfl, rfl⟩
          · go_enter Tryz.func90, Tryz.ntmps90
            go_wp2_with (first
              | (go_at_call 157; (with_reducible refine (HC2.out _).mono ?_); rintro e w' ⟨rfl, rfl⟩)
              | (go_at_call 157; (with_reducible refine (HC3.out ?_).mono ?_); assumption; rintro e w' ⟨rfl, rfl⟩))
            all_goals
              go_ret
              exact ⟨rfl, rfl⟩
        · go_enter Tryz.func90, Tryz.ntmps90
          go_wp2_with (first
            | (go_at_call 157; (with_reducible refine (HC2.out _).mono ?_); rintro e w' ⟨rfl, rfl⟩)
            | (go_at_call 157; (with_reducible refine (HC3.out ?_).mono ?_); assumption; rintro e w' ⟨rfl, rfl⟩))
          all_goals
            go_ret
            exact ⟨rfl, rfl⟩
      · have h6 : 5 < d := by have := HD.out; omega
        rw [if_neg (fun h => h5 h.1)]
        go_enter Tryz.func90, Tryz.ntmps90
        go_wp2_with (first
          | (go_at_call 157; (with_reducible refine (HC2.out _).mono ?_); rintro e w' ⟨rfl, rfl⟩)
          | (go_at_call 157; (with_reducible refine (HC3.out ?_).mono ?_); assumption; rintro e w' ⟨rfl, rfl⟩))
        all_goals
          go_ret
          exact ⟨rfl, rfl⟩

/-- A Man with its sign. -/
def sgm (s : Bool) (m : Int) : Int := if s then -m else m

set_option maxRecDepth 100000 in
set_option maxHeartbeats 1000000 in
theorem put_c (s : Bool) (m x : Int) (w : World) (h0 : 0 ≤ m) (h1 : m ≤ 9223372036854775807) :
    Calls Tryz.prog 202 #[.agg #[.bool s], .int .i64 m, .int .i64 x] w fun e w' => e = .returned (.agg #[.int .i64 (sgm s m), .int .i64 x]) ∧ Below w.heap.size w w' := by
  cases s
  · go_enter Tryz.func202, Tryz.ntmps202
    go_wp2_with fail
    refine bodyPost_ret (v := .agg #[.int .i64 m, .int .i64 x]) (by simp [results, Tryz.results202, go_sem]) rfl ?_
    exact ⟨rfl, (by repeat (first | exact Below.refl _ _ | exact HB.out | (refine Below.alloc ?_ (by first | (simp; done) | (simp; omega)) _) | (refine Below.setCell ?_ (by first | (simp; done) | (simp; omega)) _) | refine Below.drew ?_ | refine below_drewN ?_ _))⟩
  · go_enter Tryz.func202, Tryz.ntmps202
    go_wp2_with fail
    refine bodyPost_ret (v := .agg #[.int .i64 (-m), .int .i64 x]) (by simp [results, Tryz.results202, go_sem]) rfl ?_
    exact ⟨rfl, (by repeat (first | exact Below.refl _ _ | exact HB.out | (refine Below.alloc ?_ (by first | (simp; done) | (simp; omega)) _) | (refine Below.setCell ?_ (by first | (simp; done) | (simp; omega)) _) | refine Below.drew ?_ | refine below_drewN ?_ _))⟩

/-- Digits copied. -/
theorem bclone_c (A : Option Addr) (c : Nat) (xs : List Int) (w : World) (hr : Row .u8 w A xs) (hb : xs.length ≤ 1000000000) :
    Calls Tryz.prog 201 #[.slice A xs.length c] w fun e w' => ∃ v, e = .returned v ∧ w'.ownsRow w.heap.size 5 1 v xs.length (xs.map (Value.int .u8)) ∧ Below w.heap.size w w' := by
  obtain ⟨i0, hi, hz0, hz1, hz2⟩ := info_parts info_byte
  have q22 : ∀ (w : World) (a : Option Addr) (n c n' c' : Nat), (binOp .eql 93 (.slice a n c) (.slice none n' c')).run Tryz.prog w = .ok (.bool a.isNone) w := fun w a n c n' c' => Lib.run_eql_slice_nil w _ _ a n c n' c' Tryz.underlying93
  have HR := Lib.hid hr
  clear hr
  have HI := Lib.hid (And.intro hi (And.intro hz0 (And.intro hz1 hz2)))
  clear hi hz0 hz1 hz2
  cases A with
  | none =>
    have hx : xs = [] := by
      cases xs with
      | nil => rfl
      | cons x xs => obtain ⟨a, e, _⟩ := HR.out 0 (by simp); cases e
    subst hx
    go_enter Tryz.func201, Tryz.ntmps201
    go_wp2
    go_ret
    exact ⟨_, rfl, World.ownsRow_nil _ _ _ _, Below.refl _ _⟩
  | some a =>
    go_enter Tryz.func201, Tryz.ntmps201
    go_wp2_with (at_builtin; refine wpList_append_own _ rfl _ _ 93 rfl w.heap.size 5 i0 (.int .u8 0) 1 1 Tryz.underlying93 HI.out.1 HI.out.2.1 HI.out.2.2.1 HI.out.2.2.2 rfl (by decide) _ _ _ rfl (World.ownsRow_made w #[] 0 (Nat.le_refl _) (Nat.zero_le _) rfl) a xs.length c (xs.map (Value.int .u8)) rfl (by simp) ?qc2 ?qc3 ?qc4 ?qc5 ?qc6 ?_)
    case qc2 =>
      intro j u hj
      have hjn : j < xs.length := by
        have := (List.getElem?_eq_some_iff.1 hj).1
        simpa using this
      obtain ⟨a', e, hc⟩ := (HR.out.alloc (.cells #[] 5)) j hjn
      cases e
      rw [hc]
      rw [List.getElem?_map, List.getElem?_eq_getElem hjn] at hj
      rw [List.getElem?_eq_getElem hjn]
      exact hj
    case qc3 => intro u hu; obtain ⟨x, _, rfl⟩ := List.mem_map.1 hu; rfl
    case qc4 => unfold maxLen; omega
    case qc5 => omega
    case qc6 => simp
    intro v' w1 hown hgrow hnil
    go_wp2
    go_ret
    refine ⟨v', rfl, by simpa using hown, ?_⟩
    exact ((Below.refl _ _).alloc (Nat.le_refl _) _).grown hgrow (by simp) (fun k hk => by cases hk; exact Nat.le_refl _)
end Go.Proofs.YtekbfommnmikbaaGreatDoor
