/- Texts of this claim, merged: M1, R2. -/
import Derived.WalkKit
import Derived.WalkSpells
import Derived.WalkLawsBesides
import Derived.Lib.Hide
import Derived.Maps.AppendAt
import Derived.Deep.LoopGhost
import Derived.Deep.QuietTactic
import Derived.BigQuiet
import Derived.Deep.RegionHeld3
import Derived.Deep.AppendLies
import Derived.Deep.DeepMust
import Derived.Deep.DeepCutAuto
import Derived.Lib.SliceRun
import Derived.Deep.OwnRows
import Derived.RangeFuncNested
import Derived.RangeFuncBound
import Derived.RangeFuncCalls
import Derived.RangeFuncLeaves
import Derived.RangeFuncBox
import Derived.Shelf.Abstract
import Derived.Shelf.RegionOpen
import Derived.OwnWalkIn
import Derived.TacticsInMore
import Derived.LoopNIn
import Derived.LoopIn
import Derived.Sort.LoopGhostIn
import Derived.Sort.CutIn
import Derived.Stop.RegionWithIn
import Derived.Deep.DrawnRows
import Derived.Test.YtekbfommnmikbaaGreatDoorProg
import Derived.Lib.AppendIntMem
import Derived.WalkSmall
import Derived.Test.YtekbfommnmikbaaGreatDoorShelf
/- Magnitudes: parts, their sums, products, quotients. -/
namespace Go.Proofs.YtekbfommnmikbaaGreatDoor
set_option linter.unusedVariables false
set_option linter.unusedSimpArgs false

/-- The value of digits, the least significant one first. -/
def val (b : Nat) : List Int → Int
  | [] => 0
  | d :: l => d + (b : Int) * val b l

/-- All are digits to the base. -/
def InR (b : Nat) (l : List Int) : Prop := ∀ d ∈ l, 0 ≤ d ∧ d < (b : Int)

theorem InR.nil (b : Nat) : InR b [] := fun _ h => by cases h
theorem InR.cons {b : Nat} {d : Int} {l : List Int} (h0 : 0 ≤ d) (h1 : d < (b : Int)) (h : InR b l) : InR b (d :: l) := by
  intro x hx
  rcases List.mem_cons.1 hx with rfl | hx
  · exact ⟨h0, h1⟩
  · exact h x hx
theorem InR.tail {b : Nat} {d : Int} {l : List Int} (h : InR b (d :: l)) : InR b l := fun x hx => h x (List.mem_cons_of_mem _ hx)
theorem InR.append {b : Nat} {l m : List Int} (h : InR b l) (k : InR b m) : InR b (l ++ m) := by
  intro x hx
  rcases List.mem_append.1 hx with hx | hx
  · exact h x hx
  · exact k x hx
theorem InR.snoc {b : Nat} {l : List Int} {d : Int} (h : InR b l) (h0 : 0 ≤ d) (h1 : d < (b : Int)) : InR b (l ++ [d]) := h.append (InR.cons h0 h1 (InR.nil b))
theorem InR.take {b : Nat} {l : List Int} (h : InR b l) (k : Nat) : InR b (l.take k) := fun x hx => h x (List.mem_of_mem_take hx)
theorem InR.drop {b : Nat} {l : List Int} (h : InR b l) (k : Nat) : InR b (l.drop k) := fun x hx => h x (List.mem_of_mem_drop hx)
theorem InR.set {b : Nat} {l : List Int} (h : InR b l) (i : Nat) {d : Int} (h0 : 0 ≤ d) (h1 : d < (b : Int)) : InR b (l.set i d) := by
  intro x hx
  rcases List.mem_or_eq_of_mem_set hx with hx | rfl
  · exact h x hx
  · exact ⟨h0, h1⟩
theorem InR.at_ {b : Nat} {l : List Int} (h : InR b l) (hb : 0 < b) (i : Nat) : 0 ≤ l.getD i 0 ∧ l.getD i 0 < (b : Int) := by
  by_cases hi : i < l.length
  · rw [List.getD_eq_getElem?_getD, List.getElem?_eq_getElem hi]
    exact h _ (List.getElem_mem hi)
  · rw [List.getD_eq_getElem?_getD, List.getElem?_eq_none (by omega)]
    simp; omega
theorem InR.replicate {b : Nat} (hb : 0 < b) (n : Nat) : InR b (List.replicate n 0) := by
  intro x hx
  obtain ⟨_, rfl⟩ := List.mem_replicate.1 hx
  exact ⟨Int.le_refl _, by omega⟩

theorem val_nil (b : Nat) : val b [] = 0 := rfl
theorem val_cons (b : Nat) (d : Int) (l : List Int) : val b (d :: l) = d + (b : Int) * val b l := rfl

theorem val_append (b : Nat) (l m : List Int) : val b (l ++ m) = val b l + (b : Int) ^ l.length * val b m := by
  induction l with
  | nil => simp [val]
  | cons d l ih =>
    simp only [List.cons_append, val_cons, ih, List.length_cons, Int.pow_succ]
    grind

theorem val_snoc (b : Nat) (l : List Int) (d : Int) : val b (l ++ [d]) = val b l + (b : Int) ^ l.length * d := by
  rw [val_append]; simp [val]

theorem val_replicate (b n : Nat) : val b (List.replicate n 0) = 0 := by
  induction n with
  | zero => rfl
  | succ n ih => rw [List.replicate_succ, val_cons, ih]; simp

theorem val_nonneg {b : Nat} {l : List Int} (h : InR b l) : 0 ≤ val b l := by
  induction l with
  | nil => exact Int.le_refl _
  | cons d l ih =>
    have h1 := h d (List.mem_cons_self ..)
    have h2 := ih h.tail
    have h3 : 0 ≤ (b : Int) * val b l := Int.mul_nonneg (by omega) h2
    rw [val_cons]; omega

theorem pow_mono' {b i j : Nat} (hb : 0 < b) (h : i ≤ j) : (b : Int) ^ i ≤ (b : Int) ^ j := by exact_mod_cast Nat.pow_le_pow_right hb h

theorem val_lt {b : Nat} {l : List Int} (h : InR b l) : val b l < (b : Int) ^ l.length := by
  induction l with
  | nil => simp [val]
  | cons d l ih =>
    have h1 := h d (List.mem_cons_self ..)
    have h2 := ih h.tail
    have h3 : (b : Int) * (val b l + 1) ≤ (b : Int) * (b : Int) ^ l.length := Int.mul_le_mul_of_nonneg_left (by omega) (by omega)
    rw [val_cons, List.length_cons, Int.pow_succ, Int.mul_comm ((b : Int) ^ l.length)]
    rw [Int.mul_add] at h3
    omega

theorem val_take_succ (b : Nat) (l : List Int) (i : Nat) : val b (l.take (i + 1)) = val b (l.take i) + (b : Int) ^ i * l.getD i 0 := by
  by_cases hi : i < l.length
  · rw [List.take_succ_eq_append_getElem hi, val_snoc, List.length_take, Nat.min_eq_left (by omega), List.getD_eq_getElem?_getD, List.getElem?_eq_getElem hi]
    rfl
  · rw [List.take_of_length_le (by omega), List.take_of_length_le (by omega), List.getD_eq_getElem?_getD, List.getElem?_eq_none (by omega)]
    simp

theorem val_drop (b : Nat) (l : List Int) (i : Nat) (hi : i < l.length) : val b (l.drop i) = l.getD i 0 + (b : Int) * val b (l.drop (i + 1)) := by
  rw [List.drop_eq_getElem_cons hi, val_cons, List.getD_eq_getElem?_getD, List.getElem?_eq_getElem hi]
  rfl

theorem val_take_drop (b : Nat) (l : List Int) (i : Nat) (hi : i ≤ l.length) : val b l = val b (l.take i) + (b : Int) ^ i * val b (l.drop i) := by
  have h := val_append b (l.take i) (l.drop i)
  rw [List.take_append_drop, List.length_take, Nat.min_eq_left hi] at h
  exact h

theorem val_set (b : Nat) (l : List Int) (i : Nat) (x : Int) (hi : i < l.length) : val b (l.set i x) = val b l + (b : Int) ^ i * (x - l.getD i 0) := by
  induction l generalizing i with
  | nil => simp at hi
  | cons d l ih =>
    cases i with
    | zero => simp [val_cons]; omega
    | succ i =>
      have h := ih i (by simpa using hi)
      simp only [List.set_cons_succ, val_cons, h, List.getD_cons_succ, Int.pow_succ]
      grind

theorem getD_set (l : List Int) (i j : Nat) (x : Int) (hi : i < l.length) : (l.set i x).getD j 0 = if j = i then x else l.getD j 0 := by
  simp only [List.getD_eq_getElem?_getD, List.getElem?_set]
  by_cases h : i = j
  · subst h; simp [hi]
  · have h' : ¬ j = i := fun e => h e.symm
    simp [h, h']

/-- The canonical digits of a number, the least significant one first, without zeros at the end. -/
def dg (b n : Nat) : List Int := if h : n = 0 ∨ b < 2 then [] else ((n % b : Nat) : Int) :: dg b (n / b)
  termination_by n
  decreasing_by exact Nat.div_lt_self (by omega) (by omega)

theorem dg_zero (b : Nat) : dg b 0 = [] := by rw [dg]; simp
theorem dg_pos {b n : Nat} (hb : 2 ≤ b) (hn : 0 < n) : dg b n = ((n % b : Nat) : Int) :: dg b (n / b) := by
  rw [dg, dif_neg (by omega)]

theorem dg_inR {b : Nat} (hb : 2 ≤ b) (n : Nat) : InR b (dg b n) := by
  induction n using Nat.strongRecOn with
  | _ n ih =>
    by_cases hn : n = 0
    · subst hn; rw [dg_zero]; exact InR.nil b
    · rw [dg_pos hb (by omega)]
      have := Nat.mod_lt n (show 0 < b by omega)
      exact InR.cons (by omega) (by omega) (ih _ (Nat.div_lt_self (by omega) (by omega)))

theorem val_dg {b : Nat} (hb : 2 ≤ b) (n : Nat) : val b (dg b n) = (n : Int) := by
  induction n using Nat.strongRecOn with
  | _ n ih =>
    by_cases hn : n = 0
    · subst hn; rw [dg_zero]; rfl
    · rw [dg_pos hb (by omega), val_cons, ih _ (Nat.div_lt_self (by omega) (by omega))]
      have := Nat.mod_add_div n b
      have e : ((n % b : Nat) : Int) + (b : Int) * ((n / b : Nat) : Int) = ((n % b + b * (n / b) : Nat) : Int) := by simp
      rw [e, this]

/-- No zero stands at the end. -/
def NoTop : List Int → Prop := fun l => l = [] ∨ l.getLastD 0 ≠ 0

theorem dg_eq_nil {b n : Nat} (hb : 2 ≤ b) : dg b n = [] ↔ n = 0 := by
  constructor
  · intro h
    have := val_dg hb n
    rw [h] at this
    simp [val] at this; omega
  · rintro rfl; exact dg_zero b

theorem getLastD_cons_of_ne {d : Int} {l : List Int} (h : l ≠ []) : (d :: l).getLastD 0 = l.getLastD 0 := by
  cases l with
  | nil => exact absurd rfl h
  | cons a l => simp [List.getLastD, List.getLast]

/-- Canonical digits are told by their value. -/
theorem canon {b : Nat} (hb : 2 ≤ b) : ∀ (l : List Int), InR b l → NoTop l → l = dg b (val b l).toNat
  | [], _, _ => by simp [val, dg_zero]
  | d :: l, h, ht => by
    have h1 := h d (List.mem_cons_self ..)
    have h2 := val_nonneg h.tail
    have hl : NoTop l := by
      by_cases h0 : l = []
      · exact .inl h0
      · refine .inr ?_
        rcases ht with ht | ht
        · cases ht
        · rwa [getLastD_cons_of_ne h0] at ht
    have ih := canon hb l h.tail hl
    obtain ⟨d', rfl⟩ := Int.eq_ofNat_of_zero_le h1.1
    obtain ⟨m, hm⟩ := Int.eq_ofNat_of_zero_le h2
    rw [val_cons]
    rw [hm] at ih ⊢
    have e : ((d' : Int) + (b : Int) * (m : Int)).toNat = d' + b * m := by
      have : (d' : Int) + (b : Int) * (m : Int) = ((d' + b * m : Nat) : Int) := by simp
      rw [this, Int.toNat_natCast]
    have hd : d' < b := by omega
    have hpos : 0 < d' + b * m := by
      rcases Nat.eq_zero_or_pos m with h0 | h0
      · subst h0
        have hl0 : l = [] := by rw [ih]; simp [dg_zero]
        subst hl0
        rcases ht with ht | ht
        · cases ht
        · simp [List.getLastD] at ht; omega
      · have := Nat.mul_pos (show 0 < b by omega) h0
        omega
    rw [e, dg_pos hb hpos]
    have e1 : (d' + b * m) % b = d' := by rw [Nat.add_mul_mod_self_left, Nat.mod_eq_of_lt hd]
    have e2 : (d' + b * m) / b = m := by rw [Nat.add_mul_div_left _ _ (by omega), Nat.div_eq_of_lt hd]; omega
    rw [e1, e2, ih]
    simp

theorem canon_nat {b : Nat} (hb : 2 ≤ b) {l : List Int} {n : Nat} (h : InR b l) (ht : NoTop l) (hv : val b l = (n : Int)) : l = dg b n := by
  have := canon hb l h ht
  rw [hv, Int.toNat_natCast] at this
  exact this

theorem noTop_of_last {l : List Int} (k : Nat) (hk : l.length = k + 1) (h : l.getD k 0 ≠ 0) : NoTop l := by
  refine .inr ?_
  have hne : l ≠ [] := by intro e; rw [e] at hk; simp at hk
  rw [List.getLastD_eq_getLast?, List.getLast?_eq_getElem?, hk]
  simpa [List.getD_eq_getElem?_getD] using h

/-- Where the rest are zeros the value is that of the beginning. -/
theorem val_take_zeros (b : Nat) (l : List Int) (k : Nat) (hk : k ≤ l.length) (h : ∀ j, k ≤ j → l.getD j 0 = 0) : val b (l.take k) = val b l := by
  have key : ∀ d, k + d ≤ l.length → val b (l.take (k + d)) = val b (l.take k) := by
    intro d
    induction d with
    | zero => intro _; rfl
    | succ d ih =>
      intro hd
      rw [← Nat.add_assoc, val_take_succ, h (k + d) (by omega), ih (by omega)]
      simp
  have := key (l.length - k) (by omega)
  rw [show k + (l.length - k) = l.length from by omega, List.take_length] at this
  exact this.symm

/-- What is left of digits when the zeros at the end have gone. -/
theorem trimmed {b : Nat} (hb : 2 ≤ b) {l : List Int} {n : Nat} (h : InR b l) (hv : val b l = (n : Int)) (k : Nat) (hk : k ≤ l.length) (hz : ∀ j, k ≤ j → l.getD j 0 = 0)
    (ht : k = 0 ∨ l.getD (k - 1) 0 ≠ 0) : l.take k = dg b n := by
  refine canon_nat hb (h.take k) ?_ (by rw [val_take_zeros b l k hk hz, hv])
  rcases ht with rfl | ht
  · exact .inl (by simp)
  · by_cases h0 : k = 0
    · subst h0; exact .inl (by simp)
    · refine noTop_of_last (k - 1) (by rw [List.length_take, Nat.min_eq_left hk]; omega) ?_
      rw [List.getD_eq_getElem?_getD, List.getElem?_take, if_pos (by omega), ← List.getD_eq_getElem?_getD]
      exact ht

theorem dg_length_le {b : Nat} (hb : 2 ≤ b) (n k : Nat) : (dg b n).length ≤ k ↔ n < b ^ k := by
  induction k generalizing n with
  | zero =>
    simp only [Nat.pow_zero, Nat.le_zero, List.length_eq_zero_iff]
    rw [dg_eq_nil hb]; omega
  | succ k ih =>
    by_cases hn : n = 0
    · subst hn
      have : 0 < b ^ (k + 1) := Nat.pow_pos (by omega)
      rw [dg_zero]; simp [this]
    · rw [dg_pos hb (by omega), List.length_cons, Nat.add_le_add_iff_right, ih, Nat.div_lt_iff_lt_mul (by omega), Nat.pow_succ]

theorem dg_length_lt {b : Nat} (hb : 2 ≤ b) (n k : Nat) : k < (dg b n).length ↔ b ^ k ≤ n := by
  have := dg_length_le hb n k
  omega

theorem dg_length_mono {b : Nat} (hb : 2 ≤ b) {m n : Nat} (h : m ≤ n) : (dg b m).length ≤ (dg b n).length := by
  have h1 := (dg_length_le hb n (dg b n).length).1 (Nat.le_refl _)
  exact (dg_length_le hb m _).2 (by omega)

theorem dg_inj {b m n : Nat} (hb : 2 ≤ b) (h : dg b m = dg b n) : m = n := by
  have h1 := val_dg hb m
  have h2 := val_dg hb n
  rw [h] at h1
  omega

/-- Comparing from the top: as far as i the digits above are equal. -/
theorem val_lt_of_top {b : Nat} {l m : List Int} (hl : InR b l) (hm : InR b m) (hlen : l.length = m.length) (i : Nat) (hi : i < l.length)
    (heq : l.drop (i + 1) = m.drop (i + 1)) (hlt : l.getD i 0 < m.getD i 0) : val b l < val b m := by
  rw [val_take_drop b l i (by omega), val_take_drop b m i (by omega), val_drop b l i hi, val_drop b m i (by omega), heq]
  have h1 := val_lt (hl.take i)
  have h2 := val_nonneg (hm.take i)
  rw [List.length_take, Nat.min_eq_left (by omega)] at h1
  have h3 : (b : Int) ^ i * (l.getD i 0 + 1) ≤ (b : Int) ^ i * m.getD i 0 := Int.mul_le_mul_of_nonneg_left (by omega) (by have : 0 ≤ (b : Int) ^ i := Int.pow_nonneg (by omega); exact this)
  have e1 : (b : Int) ^ i * (l.getD i 0 + (b : Int) * val b (m.drop (i + 1))) = (b : Int) ^ i * l.getD i 0 + (b : Int) ^ i * ((b : Int) * val b (m.drop (i + 1))) := Int.mul_add ..
  have e2 : (b : Int) ^ i * (m.getD i 0 + (b : Int) * val b (m.drop (i + 1))) = (b : Int) ^ i * m.getD i 0 + (b : Int) ^ i * ((b : Int) * val b (m.drop (i + 1))) := Int.mul_add ..
  have e3 : (b : Int) ^ i * (l.getD i 0 + 1) = (b : Int) ^ i * l.getD i 0 + (b : Int) ^ i := by rw [Int.mul_add, Int.mul_one]
  rw [e1, e2]
  omega

end Go.Proofs.YtekbfommnmikbaaGreatDoor

namespace Go.Proofs.YtekbfommnmikbaaGreatDoor
set_option linter.unusedVariables false
set_option linter.unusedSimpArgs false

/-- There is a root. -/
theorem root_ex (n : Nat) : ∃ r, r * r ≤ n ∧ n < (r + 1) * (r + 1) := by
  induction n with
  | zero => exact ⟨0, by omega, by omega⟩
  | succ n ih =>
    obtain ⟨r, h1, h2⟩ := ih
    rcases Nat.lt_or_ge (n + 1) ((r + 1) * (r + 1)) with h | h
    · exact ⟨r, by omega, h⟩
    · refine ⟨r + 1, h, ?_⟩
      have : (r + 1 + 1) * (r + 1 + 1) = (r + 1) * (r + 1) + 2 * (r + 1) + 1 := by grind
      omega
/-- The square root, rounded down. -/
noncomputable def root (n : Nat) : Nat := (root_ex n).choose
/-- One step of Euclid's way, with the first number's factor. -/
structure Eu (a0 b0 a b : Nat) (one zero : Int) : Prop where
  gcd : Nat.gcd a b = Nat.gcd a0 b0
  fa : ∃ s, one * (a0 : Int) + s * (b0 : Int) = (a : Int)
  fb : ∃ t, zero * (a0 : Int) + t * (b0 : Int) = (b : Int)
  size : zero.natAbs * a + one.natAbs * b ≤ b0
  one_ : one.natAbs ≤ b0 + 1
  az : a ≤ a0 + b0
  bz : b ≤ a0 + b0

theorem Eu.zero_le {a0 b0 a b : Nat} {one zero : Int} (h : Eu a0 b0 a b one zero) (ha : 0 < a) : zero.natAbs ≤ b0 := by
  have h1 := h.size
  have h2 : zero.natAbs * 1 ≤ zero.natAbs * a := Nat.mul_le_mul_left _ ha
  omega
end Go.Proofs.YtekbfommnmikbaaGreatDoor

namespace Go.Proofs.YtekbfommnmikbaaGreatDoor
set_option linter.unusedVariables false
set_option linter.unusedSimpArgs false
open Go.RowKit

/-- The numbers xs lie from A on. -/
def Row (k : IntKind) (w : World) (A : Option Addr) (xs : List Int) : Prop :=
  ∀ j, j < xs.length → ∃ a, A = some a ∧ w.cell? (a.add j) = some (.int k (xs[j]?.getD 0))

/-- v is a slice of the numbers xs. -/
def Sl (k : IntKind) (w : World) (v : Value) (xs : List Int) : Prop := ∃ A c, v = .slice A xs.length c ∧ xs.length ≤ c ∧ c ≤ 9223372036854775807 ∧ Row k w A xs

/-- v lies from block B on (or nowhere). -/
def FromB (B : Nat) (v : Value) : Prop := ∀ k, v.ownBlock = some k → B ≤ k

/-- v is a slice of the digits of n to the base b. -/
def Dg (b : Nat) (w : World) (v : Value) (n : Nat) : Prop := Sl .i64 w v (dg b n)

theorem Row.at_ {k : IntKind} {w : World} {A : Option Addr} {xs : List Int} (h : Row k w A xs) (j : Nat) (hj : j < xs.length) :
    ∃ a, A = some a ∧ w.cell? (a.add j) = some (.int k (xs[j]?.getD 0)) := h j hj

theorem Row.nil {k : IntKind} {w : World} {A : Option Addr} : Row k w A [] := fun _ h => by simp at h

/-- What lay in a world lies in each later one that has left it. -/
theorem Row.below {k : IntKind} {w w' : World} {A : Option Addr} {xs : List Int} (h : Row k w A xs) (hb : Below w.heap.size w w') : Row k w' A xs := by
  intro j hj
  obtain ⟨a, e, hc⟩ := h j hj
  exact ⟨a, e, (hb.cell (World.block_lt_of_cell? w _ hc)).trans hc⟩
theorem Sl.below {k : IntKind} {w w' : World} {v : Value} {xs : List Int} (h : Sl k w v xs) (hb : Below w.heap.size w w') : Sl k w' v xs := by
  obtain ⟨A, c, e, hc, hm, hr⟩ := h
  exact ⟨A, c, e, hc, hm, hr.below hb⟩
theorem Dg.below {b : Nat} {w w' : World} {v : Value} {n : Nat} (h : Dg b w v n) (hb : Below w.heap.size w w') : Dg b w' v n := Sl.below h hb

theorem add_block (a : Addr) (j : Nat) : (a.add j).block = a.block := by unfold Addr.add; split <;> rfl
theorem add_lit (g off j : Nat) : (⟨g, off, none⟩ : Addr).add j = ⟨g, off + j, none⟩ := by unfold Addr.add; split <;> simp_all

/-- A store elsewhere, or whatever keeps the block. -/
theorem Row.same {k : IntKind} {w w' : World} {A : Option Addr} {xs : List Int} (h : Row k w A xs) (hs : ∀ a, A = some a → w'.heap[a.block]? = w.heap[a.block]?) : Row k w' A xs := by
  intro j hj
  obtain ⟨a, e, hc⟩ := h j hj
  refine ⟨a, e, ?_⟩
  rw [World.cell?_of_block (w := w) (by rw [add_block]; exact hs a e)]
  exact hc
theorem Sl.same {k : IntKind} {w w' : World} {v : Value} {xs : List Int} (h : Sl k w v xs) (hs : ∀ g, v.ownBlock = some g → w'.heap[g]? = w.heap[g]?) : Sl k w' v xs := by
  obtain ⟨A, c, rfl, hc, hm, hr⟩ := h
  exact ⟨A, c, rfl, hc, hm, hr.same fun a e => hs _ (by subst e; rfl)⟩
theorem Dg.same {b : Nat} {w w' : World} {v : Value} {n : Nat} (h : Dg b w v n) (hs : ∀ g, v.ownBlock = some g → w'.heap[g]? = w.heap[g]?) : Dg b w' v n := Sl.same h hs

theorem Sl.alloc {k : IntKind} {w : World} {v : Value} {xs : List Int} (h : Sl k w v xs) (o : Obj) : Sl k (w.alloc o) v xs := h.below ((Below.refl _ _).alloc (Nat.le_refl _) _)
theorem Sl.drew {k : IntKind} {w : World} {v : Value} {xs : List Int} (h : Sl k w v xs) : Sl k w.drew v xs := h.below (Below.refl _ _).drew
theorem Row.alloc {k : IntKind} {w : World} {v : Option Addr} {xs : List Int} (h : Row k w v xs) (o : Obj) : Row k (w.alloc o) v xs := h.below ((Below.refl _ _).alloc (Nat.le_refl _) _)
theorem Row.drew {k : IntKind} {w : World} {v : Option Addr} {xs : List Int} (h : Row k w v xs) : Row k w.drew v xs := h.below (Below.refl _ _).drew

theorem below_then' {w w1 w2 : World} (h : Below w.heap.size w w1) (k : Below w1.heap.size w1 w2) : Below w.heap.size w w2 := h.trans (k.mono h.size)
theorem below_drewN {B : Nat} {a w : World} (h : Below B a w) (n : Nat) : Below B a (w.drewN n) := ⟨h.os, h.tape, h.output, h.size, h.block⟩

/-- What the call itself has made reads as a slice. -/
theorem own_row {w : World} {base n : Nat} {e : TypeId} {k : IntKind} {v : Value} {xs : List Int} (h : w.ownsRow base e 1 v n (xs.map (Value.int k))) :
    ∃ A c, v = .slice A xs.length c ∧ xs.length ≤ c ∧ c ≤ maxLen ∧ Row k w A xs ∧ xs.length = n := by
  have hl : xs.length = n := by have := h.1; simpa using this
  rcases h.2 with ⟨rfl, h0⟩ | ⟨g, cap, cur, rfl, hb, hh, hn, hm, hs, ht⟩
  · obtain rfl : xs = [] := List.eq_nil_of_length_eq_zero (by omega)
    exact ⟨none, 0, rfl, Nat.le_refl _, Nat.zero_le _, Row.nil, by simpa using hl⟩
  · refine ⟨some ⟨g, 0, none⟩, cap, by rw [hl], by omega, hm, ?_, hl⟩
    intro j hj
    refine ⟨_, rfl, h.cells (g := g) rfl j _ ?_⟩
    rw [List.getElem?_map, List.getElem?_eq_getElem hj]
    rfl
theorem own_from {w : World} {base n : Nat} {e : TypeId} {size : Nat} {v : Value} {xs : List Value} (h : w.ownsRow base e size v n xs) : FromB base v := fun k hk => (h.lt k hk).1

theorem FromB.mono {B B' : Nat} {v : Value} (h : FromB B v) (hB : B' ≤ B) : FromB B' v := fun k hk => Nat.le_trans hB (h k hk)

theorem own_drewN {w : World} {base n : Nat} {e : TypeId} {size : Nat} {v : Value} {xs : List Value} (h : w.ownsRow base e size v n xs) (m : Nat) : (w.drewN m).ownsRow base e size v n xs := h

theorem new_cell (w : World) (cs : Array Value) (t : TypeId) (i : Nat) : (w.alloc (.cells cs t)).cell? ⟨w.heap.size, i, none⟩ = cs[i]? := by
  unfold World.cell?
  rw [heap_alloc_new]
  rfl
theorem set_same {w : World} {a : Addr} {u : Value} (v : Value) (h : w.cell? a = some u) : (w.setCell a v).cell? a = some v := World.cell?_setCell_same (h := h) ..
theorem set_far {w : World} {a b : Addr} {u : Value} (v : Value) (hne : a.block ≠ b.block) (h : w.cell? b = some u) : (w.setCell a v).cell? b = some u := (World.cell?_setCell_far w a b v hne).trans h
theorem set_other {w : World} {a b : Addr} {u : Value} (v : Value) (hne : a ≠ b) (h : w.cell? b = some u) : (w.setCell a v).cell? b = some u := (World.cell?_setCell_other (h := hne) ..).trans h

theorem some_set {w : World} {a b : Addr} {v : Value} (h : (w.cell? b).isSome = true) : ((w.setCell a v).cell? b).isSome = true := by
  obtain ⟨u, hu⟩ := Option.isSome_iff_exists.1 h
  by_cases e : a = b
  · subst e; rw [set_same v hu]; rfl
  · rw [set_other v e hu]; rfl
theorem lt_of_some {w : World} {a : Addr} (h : (w.cell? a).isSome = true) : a.block < w.heap.size := by
  obtain ⟨u, hu⟩ := Option.isSome_iff_exists.1 h
  exact World.block_lt_of_cell? w a hu
theorem Dg.set {b : Nat} {w : World} {v : Value} {n k : Nat} {a : Addr} (h : Dg b w v n) (hf : FromB k v) (hk : a.block < k) (x : Value) : Dg b (w.setCell a x) v n :=
  h.same fun g hg => Below.heap_setCell _ _ _ _ (by have := hf g hg; omega)
theorem Sl.set {kd : IntKind} {w : World} {v : Value} {xs : List Int} {k : Nat} {a : Addr} (h : Sl kd w v xs) (hf : FromB k v) (hk : a.block < k) (x : Value) : Sl kd (w.setCell a x) v xs :=
  h.same fun g hg => Below.heap_setCell _ _ _ _ (by have := hf g hg; omega)

/-- What a call that only makes memory of its own keeps. -/
theorem keep_cell {w w' : World} {a : Addr} {v : Value} (hb : Below w.heap.size w w') (h : w.cell? a = some v) : w'.cell? a = some v := (hb.cell (World.block_lt_of_cell? w a h)).trans h
theorem keep_some {w w' : World} {a : Addr} (hb : Below w.heap.size w w') (h : (w.cell? a).isSome = true) : (w'.cell? a).isSome = true := by rw [hb.cell (lt_of_some h)]; exact h
theorem keep_free {w w' : World} {a : Addr} (hb : Below w.heap.size w w') (hs : (w.cell? a).isSome = true) (h : w.frozen? a = false) : w'.frozen? a = false := by rw [hb.frozen (lt_of_some hs)]; exact h
theorem keep_free' {w w' : World} {a : Addr} {v : Value} (hb : Below w.heap.size w w') (hs : w.cell? a = some v) (h : w.frozen? a = false) : w'.frozen? a = false := by rw [hb.frozen (World.block_lt_of_cell? w a hs)]; exact h
/-- Below B (some block of before), kept by such a call. -/
structure Bel (B : Nat) (w w' : World) : Prop where
  to_ : Below B w w'
  size_ : B ≤ w.heap.size
theorem Bel.call {B : Nat} {w w1 w2 : World} (h : Bel B w w1) (hb : Below w1.heap.size w1 w2) : Bel B w w2 := ⟨h.to_.trans (hb.mono (Nat.le_trans h.size_ h.to_.size)), h.size_⟩
theorem Bel.to {w w1 : World} (h : Bel w.heap.size w w1) : Below w.heap.size w w1 := h.to_
theorem Bel.refl (B : Nat) (w : World) (h : B ≤ w.heap.size) : Bel B w w := ⟨Below.refl _ _, h⟩
theorem Bel.drew {B : Nat} {w w1 : World} (h : Bel B w w1) : Bel B w w1.drew := ⟨h.to_.drew, h.size_⟩
theorem Bel.alloc {B : Nat} {w w1 : World} (h : Bel B w w1) (o : Obj) : Bel B w (w1.alloc o) := ⟨h.to_.alloc (Nat.le_trans h.size_ h.to_.size) o, h.size_⟩
theorem Bel.set {B : Nat} {w w1 : World} (h : Bel B w w1) {a : Addr} (v : Value) (ha : B ≤ a.block) : Bel B w (w1.setCell a v) := ⟨h.to_.setCell ha v, h.size_⟩

theorem cell_of_heap {w : World} {b : Nat} {c : Array Value} {t : TypeId} {f : Nat × Nat} (h : w.heap[b]? = some (.cells c t f)) (i : Nat) : w.cell? ⟨b, i, none⟩ = c[i]? := by unfold World.cell?; rw [h]; rfl
theorem free_of_heap {w : World} {b : Nat} {c : Array Value} {t : TypeId} (h : w.heap[b]? = some (.cells c t (0, 0))) (i : Nat) : w.frozen? ⟨b, i, none⟩ = false := by unfold World.frozen?; rw [h]; simp
theorem heap_old {w : World} {b : Nat} {x : Obj} (o : Obj) (h : w.heap[b]? = some x) : (w.alloc o).heap[b]? = some x := by
  rw [Below.heap_alloc w o b (Array.getElem?_eq_some_iff.1 h).1]; exact h
theorem heap_new' (w : World) (o : Obj) (b : Nat) (hb : b = w.heap.size) : (w.alloc o).heap[b]? = some o := by subst hb; exact heap_alloc_new w o
theorem boxes1 (w : World) (a0 : Array Value) (t0 : TypeId) : ∃ W, w.alloc (.cells a0 t0) = W ∧ (∀ i, W.cell? ⟨w.heap.size, i, none⟩ = a0[i]?) ∧ (∀ i, W.frozen? ⟨w.heap.size, i, none⟩ = false) ∧ Bel w.heap.size w W ∧ W.heap.size = w.heap.size + 1 := by
  refine ⟨_, rfl, fun i => cell_of_heap (heap_alloc_new _ _) i, fun i => free_of_heap (heap_alloc_new _ _) i, ?_, by simp⟩
  exact (Bel.refl _ _ (Nat.le_refl _)).alloc _
theorem boxes2 (w : World) (a0 a1 : Array Value) (t0 t1 : TypeId) : ∃ W, (w.alloc (.cells a0 t0)).alloc (.cells a1 t1) = W ∧ (∀ i, W.cell? ⟨w.heap.size, i, none⟩ = a0[i]?) ∧ (∀ i, W.cell? ⟨w.heap.size + 1, i, none⟩ = a1[i]?) ∧ (∀ i, W.frozen? ⟨w.heap.size, i, none⟩ = false) ∧ (∀ i, W.frozen? ⟨w.heap.size + 1, i, none⟩ = false) ∧ Bel w.heap.size w W ∧ W.heap.size = w.heap.size + 1 + 1 := by
  refine ⟨_, rfl, fun i => cell_of_heap (heap_old _ (heap_alloc_new _ _)) i, fun i => cell_of_heap (heap_new' _ _ _ (by simp)) i, fun i => free_of_heap (heap_old _ (heap_alloc_new _ _)) i, fun i => free_of_heap (heap_new' _ _ _ (by simp)) i, ?_, by simp⟩
  exact ((Bel.refl _ _ (Nat.le_refl _)).alloc _).alloc _
theorem boxes3 (w : World) (a0 a1 a2 : Array Value) (t0 t1 t2 : TypeId) : ∃ W, ((w.alloc (.cells a0 t0)).alloc (.cells a1 t1)).alloc (.cells a2 t2) = W ∧ (∀ i, W.cell? ⟨w.heap.size, i, none⟩ = a0[i]?) ∧ (∀ i, W.cell? ⟨w.heap.size + 1, i, none⟩ = a1[i]?) ∧ (∀ i, W.cell? ⟨w.heap.size + 1 + 1, i, none⟩ = a2[i]?) ∧ (∀ i, W.frozen? ⟨w.heap.size, i, none⟩ = false) ∧ (∀ i, W.frozen? ⟨w.heap.size + 1, i, none⟩ = false) ∧ (∀ i, W.frozen? ⟨w.heap.size + 1 + 1, i, none⟩ = false) ∧ Bel w.heap.size w W ∧ W.heap.size = w.heap.size + 1 + 1 + 1 := by
  refine ⟨_, rfl, fun i => cell_of_heap (heap_old _ (heap_old _ (heap_alloc_new _ _))) i, fun i => cell_of_heap (heap_old _ (heap_new' _ _ _ (by simp))) i, fun i => cell_of_heap (heap_new' _ _ _ (by simp)) i, fun i => free_of_heap (heap_old _ (heap_old _ (heap_alloc_new _ _))) i, fun i => free_of_heap (heap_old _ (heap_new' _ _ _ (by simp))) i, fun i => free_of_heap (heap_new' _ _ _ (by simp)) i, ?_, by simp⟩
  exact (((Bel.refl _ _ (Nat.le_refl _)).alloc _).alloc _).alloc _
theorem max2_int (k k' : IntKind) (x y : Int) : Builtin.max2 (.int k x) (.int k' y) = pure (.int k (if x < y then y else x)) := by simp only [Builtin.max2, gt_iff_lt]
theorem min2_int (k k' : IntKind) (x y : Int) : Builtin.min2 (.int k x) (.int k' y) = pure (.int k (if y < x then y else x)) := by simp only [Builtin.min2]
theorem max_two (ats : Array TypeId) (ty : TypeId) (a b : Value) : Builtin.max_ ats ty #[a, b] = (Builtin.max2 a b >>= fun s => pure s) := by simp only [Builtin.max_, List.foldlM_cons, List.foldlM_nil]
theorem min_two (ats : Array TypeId) (ty : TypeId) (a b : Value) : Builtin.min_ ats ty #[a, b] = (Builtin.min2 a b >>= fun s => pure s) := by simp only [Builtin.min_, List.foldlM_cons, List.foldlM_nil]

end Go.Proofs.YtekbfommnmikbaaGreatDoor

namespace Go.Proofs.YtekbfommnmikbaaGreatDoor
set_option linter.unusedVariables false
set_option linter.unusedSimpArgs false
open Go.RowKit
attribute [local go_sem] max2_int min2_int max_two min_two

def sgn (n : Int) : Int := if n < 0 then -1 else if 0 < n then 1 else 0

set_option maxHeartbeats 400000 in
theorem sign_c (n : Int) (w : World) :
    Calls Tryz.prog 193 #[.int .i64 n] w fun e w' => e = .returned (.int .i64 (sgn n)) ∧ w = w' := by
  rcases Int.lt_trichotomy n 0 with h | h | h
  all_goals
    go_enter Tryz.func193, Tryz.ntmps193
    go_wp2
    go_ret
    exact ⟨by simp [sgn]; omega, rfl⟩

set_option maxHeartbeats 400000 in
theorem at_c (A : Option Addr) (c : Nat) (xs : List Int) (i : Nat) (w : World) (hr : Row .i64 w A xs) :
    Calls Tryz.prog 199 #[.slice A xs.length c, .int .i64 i] w fun e w' => e = .returned (.int .i64 (xs[i]?.getD 0)) ∧ w = w' := by
  by_cases h : i < xs.length
  · obtain ⟨a, rfl, hc⟩ := hr i h
    clear hr
    go_enter Tryz.func199, Tryz.ntmps199
    go_wp2
    go_ret
    exact ⟨by simp [h], rfl⟩
  · clear hr
    go_enter Tryz.func199, Tryz.ntmps199
    go_wp2
    go_ret
    exact ⟨by rw [List.getElem?_eq_none (by omega)]; rfl, rfl⟩

/-- What cut returns: the list up to its last number that is not 0, in place. -/
def CutP (A : Option Addr) (c : Nat) (xs : List Int) (w : World) (e : Ending) (w' : World) : Prop :=
  w = w' ∧ ∃ k, k ≤ xs.length ∧ e = .returned (.slice A k c) ∧ (∀ j, k ≤ j → xs[j]?.getD 0 = 0) ∧ (k = 0 ∨ xs[k - 1]?.getD 0 ≠ 0)

set_option maxHeartbeats 1000000 in
theorem cut_c (A : Option Addr) (c : Nat) (xs : List Int) (w : World) (hr : Row .i64 w A xs) (hc : xs.length ≤ c) (hm : c ≤ 9223372036854775807) :
    Calls Tryz.prog 222 #[.slice A xs.length c] w (CutP A c xs w) := by
  have HR := Lib.hid hr
  clear hr
  go_enter Tryz.func222, Tryz.ntmps222
  go_wp2
  go_loopg [0] xs.length (fun k p wr => p = .slice A k c ∧ k ≤ xs.length ∧ Hid (∀ j, k ≤ j → xs[j]?.getD 0 = 0) ∧ wr = w)
  case atStart => exact ⟨rfl, Nat.le_refl _, fun j hj => by rw [List.getElem?_eq_none hj]; rfl, rfl⟩
  case round =>
    obtain ⟨rfl, hk, HZ, rfl⟩ := hrel
    by_cases h0 : gk = 0
    · subst h0
      go_wp2
      go_ret
      exact ⟨rfl, 0, Nat.zero_le _, rfl, HZ.out, .inl rfl⟩
    · obtain ⟨k, rfl⟩ : ∃ k, gk = k + 1 := ⟨gk - 1, by omega⟩
      clear h0
      obtain ⟨a, rfl, hcell⟩ := HR.out k (by omega)
      by_cases hz : xs[k]?.getD 0 = 0
      · rw [hz] at hcell
        have HZ' : Hid (xs[k]?.getD 0 = 0) := hz
        clear hz
        go_wp2
        go_roundg k
        case measure => omega
        case rel =>
          refine ⟨rfl, by omega, fun j hj => ?_, rfl⟩
          by_cases e : j = k
          · subst e; exact HZ'.out
          · exact HZ.out j (by omega)
      · have HZ' : Hid (xs[k]?.getD 0 ≠ 0) := hz
        generalize hx : xs[k]?.getD 0 = x at hcell hz
        have hb : (x == 0) = false := by simpa using hz
        clear hx hz
        go_wp2
        go_ret
        exact ⟨rfl, k + 1, hk, rfl, HZ.out, .inr (by simpa using HZ'.out)⟩

theorem at_x (A : Option Addr) (c : Nat) (xs : List Int) (i : Nat) (x : Int) (w : World) (hr : Row .i64 w A xs) (hx : xs[i]?.getD 0 = x) :
    Calls Tryz.prog 199 #[.slice A xs.length c, .int .i64 i] w fun e w' => e = .returned (.int .i64 x) ∧ w = w' := by
  subst hx; exact at_c A c xs i w hr

/-- A call returns the digits of n to the base b, in memory of its own; what was there is as it was. -/
def DgP (b n : Nat) (w : World) (e : Ending) (w' : World) : Prop := ∃ v, e = .returned v ∧ Dg b w' v n ∧ FromB w.heap.size v ∧ Below w.heap.size w w'

theorem cut_dg {b : Nat} (hb : 2 ≤ b) {A : Option Addr} {c : Nat} {xs : List Int} {w : World} {n : Nat} {e : Ending} {w' : World} (hr : Row .i64 w A xs) (hc : xs.length ≤ c) (hm : c ≤ 9223372036854775807) (hi : InR b xs) (hv : val b xs = (n : Int))
    (h : CutP A c xs w e w') : w = w' ∧ ∃ v, e = .returned v ∧ Dg b w' v n ∧ (∀ g, v.ownBlock = some g → ∃ a, A = some a ∧ a.block = g) := by
  obtain ⟨rfl, k, hk, rfl, hz, ht⟩ := h
  refine ⟨rfl, _, rfl, ?_, ?_⟩
  · have e := trimmed hb hi hv k hk (fun j hj => by rw [List.getD_eq_getElem?_getD]; exact hz j hj) (by rw [List.getD_eq_getElem?_getD]; exact ht)
    have el : (dg b n).length = k := by rw [← e, List.length_take, Nat.min_eq_left hk]
    refine ⟨A, c, by rw [el], by omega, hm, fun j hj => ?_⟩
    obtain ⟨a, ea, hc⟩ := hr j (by omega)
    refine ⟨a, ea, ?_⟩
    rw [hc, ← e, List.getElem?_take, if_pos (by omega)]
  · intro g hg
    cases A with
    | none => simp [Value.ownBlock] at hg
    | some a => exact ⟨a, rfl, by simpa [Value.ownBlock] using hg⟩

theorem info_int : (Tryz.prog.info? 3).map (fun i => (i.zero, i.size, i.bytes)) = some (some (.int .i64 0), 1, 8) := by kernel_rfl

/-- One place of a sum. -/
theorem sum_step {b : Nat} (hb : 2 ≤ b) {p q l : List Int} {k : Nat} {c x y : Int} (hl : l.length = k) (hv : val b l + (b : Int) ^ k * c = val b (p.take k) + val b (q.take k)) (hx : p[k]?.getD 0 = x) (hy : q[k]?.getD 0 = y) :
    val b (l ++ [(x + y + c) % (b : Int)]) + (b : Int) ^ (k + 1) * ((x + y + c) / (b : Int)) = val b (p.take (k + 1)) + val b (q.take (k + 1)) := by
  rw [val_snoc, val_take_succ, val_take_succ, hl, List.getD_eq_getElem?_getD, List.getD_eq_getElem?_getD, hx, hy]
  have e := Int.emod_add_mul_ediv (x + y + c) b
  have e2 : (b : Int) ^ (k + 1) = (b : Int) ^ k * (b : Int) := Int.pow_succ _ _
  rw [e2]
  generalize (x + y + c) % (b : Int) = r at *
  generalize (x + y + c) / (b : Int) = d at *
  generalize (b : Int) ^ k = B at *
  have : B * (r + (b : Int) * d) = B * (x + y + c) := by rw [e]
  grind

/-- The end of a sum: nothing is carried on. -/
theorem sum_end {b : Nat} (hb : 2 ≤ b) {p q l : List Int} {k : Nat} {c : Int} {m n : Nat} (hp : InR b p) (hq : InR b q) (hpk : p.length < k) (hqk : q.length < k) (hl : l.length = k) (hi : InR b l)
    (hv : val b l + (b : Int) ^ k * c = val b (p.take k) + val b (q.take k)) (hc : 0 ≤ c) (hm : val b p = (m : Int)) (hn : val b q = (n : Int)) : val b l = ((m + n : Nat) : Int) := by
  rw [List.take_of_length_le (by omega), List.take_of_length_le (by omega), hm, hn] at hv
  have h1 := val_lt hp
  have h2 := val_lt hq
  have h0 := val_nonneg hi
  obtain ⟨j, rfl⟩ : ∃ j, k = j + 1 := ⟨k - 1, by omega⟩
  have g1 : (b : Int) ^ p.length ≤ (b : Int) ^ j := pow_mono' (by omega) (by omega)
  have g2 : (b : Int) ^ q.length ≤ (b : Int) ^ j := pow_mono' (by omega) (by omega)
  have g3 : (b : Int) ^ (j + 1) = (b : Int) ^ j * (b : Int) := Int.pow_succ _ _
  have g4 : 0 ≤ (b : Int) ^ j := Int.pow_nonneg (by omega)
  have g5 : (b : Int) ^ j * 2 ≤ (b : Int) ^ j * (b : Int) := Int.mul_le_mul_of_nonneg_left (by omega) g4
  have hc0 : c = 0 := by
    rcases Int.lt_or_le 0 c with h | h
    · exfalso
      have : (b : Int) ^ (j + 1) * 1 ≤ (b : Int) ^ (j + 1) * c := Int.mul_le_mul_of_nonneg_left (by omega) (by omega)
      omega
    · omega
  subst hc0
  simp at hv
  omega

set_option maxHeartbeats 1000000 in
theorem plus_c (v1 v2 : Value) (m n : Nat) (w : World) (h1 : Dg 1000000000 w v1 m) (h2 : Dg 1000000000 w v2 n) (hm : (dg 1000000000 m).length ≤ 1000000) (hn : (dg 1000000000 n).length ≤ 1000000) :
    Calls Tryz.prog 190 #[v1, v2] w (DgP 1000000000 (m + n) w) := by
  obtain ⟨A1, c1, rfl, hc1, _, hr1⟩ := h1
  obtain ⟨A2, c2, rfl, hc2, _, hr2⟩ := h2
  have HR1 := Lib.hid hr1
  have HR2 := Lib.hid hr2
  have I1 := Lib.hid (dg_inR (b := 1000000000) (by decide) m)
  have I2 := Lib.hid (dg_inR (b := 1000000000) (by decide) n)
  have V1 := Lib.hid (val_dg (b := 1000000000) (by decide) m)
  have V2 := Lib.hid (val_dg (b := 1000000000) (by decide) n)
  clear hr1 hr2
  generalize dg 1000000000 m = p at *
  generalize dg 1000000000 n = q at *
  obtain ⟨mx, hmx⟩ : ∃ mx : Nat, (if p.length < q.length then (q.length : Int) else (p.length : Int)) = (mx : Int) := ⟨max p.length q.length, by split <;> omega⟩
  have hmx1 : p.length ≤ mx := by split at hmx <;> omega
  have hmx2 : q.length ≤ mx := by split at hmx <;> omega
  have hmx3 : mx ≤ 1000000 := by split at hmx <;> omega
  go_enter Tryz.func190, Tryz.ntmps190
  go_wp2_with fail
  clear hmx
  go_loopg [5, 6, 15] (mx + 1) (fun g v c i wr => ∃ (k : Nat) (cc : Int) (l : List Int), i = .int .i64 k ∧ c = .int .i64 cc ∧ 0 ≤ cc ∧ cc ≤ 1 ∧ k + g = mx + 1 ∧ wr.ownsRow w.heap.size 3 1 v k (l.map (Value.int .i64)) ∧ Hid (l.length = k ∧ InR 1000000000 l ∧ val 1000000000 l + (1000000000 : Int) ^ k * cc = val 1000000000 (p.take k) + val 1000000000 (q.take k)) ∧ Below w.heap.size w wr)
  case atStart => exact ⟨0, 0, [], rfl, rfl, by omega, by omega, by omega, World.ownsRow_nil _ _ _ _, ⟨rfl, InR.nil _, by simp [val]⟩, Below.refl _ _⟩
  case round =>
    obtain ⟨k, cc, l, rfl, rfl, hc0, hc1', hg, hown, HL, hB⟩ := hrel
    have HP := Lib.hid (HR1.out.below hB)
    have HQ := Lib.hid (HR2.out.below hB)
    have HB := Lib.hid hB
    have hsz := hB.size
    clear hB
    by_cases hlt : k < mx + 1
    · obtain ⟨g, rfl⟩ : ∃ g, gk = g + 1 := ⟨gk - 1, by omega⟩
      have b1 := I1.out.at_ (by decide) k
      have b2 := I2.out.at_ (by decide) k
      rw [List.getD_eq_getElem?_getD] at b1 b2
      obtain ⟨x, hx⟩ : ∃ x, p[k]?.getD 0 = x := ⟨_, rfl⟩
      obtain ⟨y, hy⟩ : ∃ y, q[k]?.getD 0 = y := ⟨_, rfl⟩
      rw [hx] at b1
      rw [hy] at b2
      obtain ⟨b10, b11⟩ := b1
      obtain ⟨b20, b21⟩ := b2
      have CP := Lib.hid (at_x A1 c1 p k x wr HP.out hx)
      have CQ := Lib.hid (at_x A2 c2 q k y wr HQ.out hy)
      have HX := Lib.hid hx
      have HY := Lib.hid hy
      clear hx hy
      have hkb : k ≤ 1000001 := by omega
      have HG := Lib.hid hg
      clear hg
      go_wp2_with (first
        | (go_at_call 199; (with_reducible refine (CP.out).mono ?_); rintro e w' ⟨rfl, rfl⟩)
        | (go_at_call 199; (with_reducible refine (CQ.out).mono ?_); rintro e w' ⟨rfl, rfl⟩)
        | (at_builtin; obtain ⟨i0, hi, hz0, hz1, hz2⟩ := info_parts info_int; refine wpList_append_own _ rfl _ _ 134 rfl w.heap.size 3 i0 (.int .i64 0) 1 8 Tryz.underlying134 hi hz0 hz1 hz2 rfl (by decide) _ _ _ rfl (hown.alloc _) ⟨wr.heap.size, 0, none⟩ 1 1 [.int .i64 ((x + y + cc) % 1000000000)] rfl rfl (cell_one_new _ _ _) (by simp [Value.oneCell']) (by unfold maxLen; omega) (by omega) (by simp; omega) ?_; intro v' w1 hown1 hgrow1 _; clear hi hz0 hz1 hz2))
      have hd0 : 0 ≤ (x + y + cc) / 1000000000 := by omega
      have hd1 : (x + y + cc) / 1000000000 ≤ 1 := by omega
      go_roundg g
      case measure => omega
      case rel =>
        obtain ⟨hl, hi, hv⟩ := HL.out
        refine ⟨k + 1, _, l ++ [(x + y + cc) % 1000000000], rfl, rfl, hd0, hd1, by have := HG.out; omega, by simpa using hown1, ⟨by simp [hl], hi.snoc (by omega) (by omega), sum_step (b := 1000000000) (by decide) hl hv HX.out HY.out⟩, ?_⟩
        exact (HB.out.alloc hsz _).grown hgrow1 (by simp; omega) (own_from hown)
    · obtain rfl : gk = 0 := by omega
      obtain ⟨hl, hi, hv⟩ := HL.out
      obtain ⟨A, c, hve, hlc, hcm, hrow, hln⟩ := own_row hown
      have hfrom := own_from hown
      have hval := Lib.hid (sum_end (b := 1000000000) (by decide) I1.out I2.out (by omega) (by omega) hl hi hv hc0 V1.out V2.out)
      have HROW := Lib.hid hrow
      have HIN := Lib.hid hi
      have HF := Lib.hid hfrom
      clear hi hv hrow hfrom hown
      subst hve
      have hcm' : c ≤ 9223372036854775807 := by unfold maxLen at hcm; omega
      have hlen : k = l.length := hl.symm
      subst hlen
      go_wp2_with (go_at_call 222; refine (cut_c A c l wr HROW.out hlc hcm').mono ?_; intro e w' hcut; obtain ⟨rfl, v, rfl, hdg, hblk⟩ := cut_dg (b := 1000000000) (by decide) HROW.out hlc hcm' HIN.out hval.out hcut)
      go_ret
      exact ⟨v, rfl, hdg, fun g hg => by obtain ⟨a, rfl, rfl⟩ := hblk g hg; exact HF.out _ rfl, HB.out⟩

end Go.Proofs.YtekbfommnmikbaaGreatDoor

namespace Go.Proofs.YtekbfommnmikbaaGreatDoor
set_option linter.unusedVariables false
set_option linter.unusedSimpArgs false
open Go.RowKit
attribute [local go_sem] max2_int min2_int max_two min_two

theorem at_q (A : Option Addr) (c : Nat) (xs : List Int) (i : Nat) (x : Int) (w : World) (n : Nat) (hr : Row .i64 w A xs) (hx : xs[i]?.getD 0 = x) :
    Calls Tryz.prog 199 #[.slice A xs.length c, .int .i64 i] (w.drewN n) fun e w' => e = .returned (.int .i64 x) ∧ ∃ m, w' = w.drewN m :=
  (at_x A c xs i x (w.drewN n) (hr.below (below_drewN (Below.refl _ _) n)) hx).mono fun _ _ ⟨he, hw⟩ => ⟨he, n, hw.symm⟩

set_option maxHeartbeats 1000000 in
theorem clone_c (A : Option Addr) (c : Nat) (xs : List Int) (w : World) (hr : Row .i64 w A xs) (hb : xs.length ≤ 1000000) :
    Calls Tryz.prog 224 #[.slice A xs.length c] w fun e w' => ∃ v, e = .returned v ∧ w'.ownsRow w.heap.size 3 1 v xs.length (xs.map (Value.int .i64)) ∧ Below w.heap.size w w' := by
  obtain ⟨i0, hi, hz0, hz1, hz2⟩ := info_parts info_int
  have q22 : ∀ (w : World) (a : Option Addr) (n c n' c' : Nat), (binOp .eql 134 (.slice a n c) (.slice none n' c')).run Tryz.prog w = .ok (.bool a.isNone) w := fun w a n c n' c' => Lib.run_eql_slice_nil w _ _ a n c n' c' Tryz.underlying134
  have HR := Lib.hid hr
  clear hr
  have HI := Lib.hid (And.intro hi (And.intro hz0 (And.intro hz1 hz2)))
  clear hi hz0 hz1 hz2
  cases A with
  | none =>
    have hx : xs = [] := by
      cases xs with
      | nil => rfl
      | cons x xs => obtain ⟨a, e, _⟩ := HR.out 0 (by simp); cases e
    subst hx
    go_enter Tryz.func224, Tryz.ntmps224
    go_wp2
    go_ret
    exact ⟨_, rfl, World.ownsRow_nil _ _ _ _, Below.refl _ _⟩
  | some a =>
    go_enter Tryz.func224, Tryz.ntmps224
    go_wp2_with (at_builtin; refine wpList_append_own _ rfl _ _ 134 rfl w.heap.size 3 i0 (.int .i64 0) 1 8 Tryz.underlying134 HI.out.1 HI.out.2.1 HI.out.2.2.1 HI.out.2.2.2 rfl (by decide) _ _ _ rfl (World.ownsRow_made w #[] 0 (Nat.le_refl _) (Nat.zero_le _) rfl) a xs.length c (xs.map (Value.int .i64)) rfl (by simp) ?qc2 ?qc3 ?qc4 ?qc5 ?qc6 ?_)
    case qc2 =>
      intro j u hj
      have hjn : j < xs.length := by
        have := (List.getElem?_eq_some_iff.1 hj).1
        simpa using this
      obtain ⟨a', e, hc⟩ := (HR.out.alloc (.cells #[] 3)) j hjn
      cases e
      rw [hc]
      rw [List.getElem?_map, List.getElem?_eq_getElem hjn] at hj
      rw [List.getElem?_eq_getElem hjn]
      exact hj
    case qc3 => intro u hu; obtain ⟨x, _, rfl⟩ := List.mem_map.1 hu; rfl
    case qc4 => unfold maxLen; omega
    case qc5 => omega
    case qc6 => simp
    intro v' w1 hown hgrow hnil
    go_wp2
    go_ret
    refine ⟨v', rfl, by simpa using hown, ?_⟩
    exact ((Below.refl _ w).alloc (Nat.le_refl _) _).grown hgrow (by simp) (by intro k hk; simp [Value.ownBlock] at hk; omega)

/-- One place of a difference. -/
theorem diff_step {b : Nat} {p q l : List Int} {k : Nat} {c x y : Int} {d r : Int} (hl : k < l.length) (hv : val b (l.take k) - (b : Int) ^ k * c = val b (p.take k) - val b (q.take k)) (hx : p[k]?.getD 0 = x) (hy : q[k]?.getD 0 = y)
    (hd : x - y - c = r - (b : Int) * d) : val b ((l.set k r).take (k + 1)) - (b : Int) ^ (k + 1) * d = val b (p.take (k + 1)) - val b (q.take (k + 1)) := by
  have e1 : (l.set k r).take k = l.take k := by rw [List.take_set_of_le (Nat.le_refl _)]
  rw [val_take_succ, val_take_succ, val_take_succ, e1, getD_set _ _ _ _ hl, if_pos rfl, List.getD_eq_getElem?_getD, List.getD_eq_getElem?_getD, hx, hy, Int.pow_succ]
  generalize (b : Int) ^ k = B at *
  have : B * (x - y - c) = B * (r - (b : Int) * d) := by rw [hd]
  grind

/-- The end of a difference: nothing is borrowed. -/
theorem diff_end {b : Nat} (hb : 2 ≤ b) {p q l : List Int} {c : Int} {m n : Nat} (hl : l.length = p.length) (hi : InR b l) (hv : val b (l.take p.length) - (b : Int) ^ p.length * c = val b (p.take p.length) - val b (q.take p.length))
    (hc : c = 0 ∨ c = 1) (hm : val b p = (m : Int)) (hn : val b q = (n : Int)) (hqp : q.length ≤ p.length) (hle : n ≤ m) : val b l = ((m - n : Nat) : Int) := by
  rw [List.take_of_length_le (by omega), List.take_of_length_le (by omega), List.take_of_length_le (by omega), hm, hn] at hv
  have h1 := val_lt hi
  rw [hl] at h1
  rcases hc with rfl | rfl
  · simp at hv; omega
  · simp at hv; omega

set_option maxHeartbeats 2000000 in
theorem minus_c (v1 v2 : Value) (m n : Nat) (w : World) (h1 : Dg 1000000000 w v1 m) (h2 : Dg 1000000000 w v2 n) (hm : (dg 1000000000 m).length ≤ 1000000) (hle : n ≤ m) :
    Calls Tryz.prog 192 #[v1, v2] w (DgP 1000000000 (m - n) w) := by
  obtain ⟨A1, c1, rfl, hc1, _, hr1⟩ := h1
  obtain ⟨A2, c2, rfl, hc2, _, hr2⟩ := h2
  have HR1 := Lib.hid hr1
  have HR2 := Lib.hid hr2
  have I1 := Lib.hid (dg_inR (b := 1000000000) (by decide) m)
  have I2 := Lib.hid (dg_inR (b := 1000000000) (by decide) n)
  have V1 := Lib.hid (val_dg (b := 1000000000) (by decide) m)
  have V2 := Lib.hid (val_dg (b := 1000000000) (by decide) n)
  have hn : (dg 1000000000 n).length ≤ (dg 1000000000 m).length := dg_length_mono (by decide) hle
  clear hr1 hr2
  have HLE := Lib.hid hle
  clear hle
  generalize dg 1000000000 m = p at *
  generalize dg 1000000000 n = q at *
  go_enter Tryz.func192, Tryz.ntmps192
  go_wp2_with (go_at_call 224; refine (clone_c A1 c1 p w HR1.out hm).mono ?_; rintro e w0 ⟨v0, rfl, hown0, hB0⟩; obtain ⟨A, c, rfl, hlc, hcm, -, -⟩ := own_row hown0)
  have HO := Lib.hid hown0
  have HB0 := Lib.hid hB0
  clear hown0 hB0
  go_loopg [6, 13] p.length (fun g bo i wr => ∃ (k : Nat) (cc : Int) (l : List Int), i = .int .i64 k ∧ bo = .int .i64 cc ∧ Hid (cc = 0 ∨ cc = 1) ∧ 0 ≤ cc ∧ cc ≤ 1 ∧ k + g = p.length ∧ Hid (wr.ownsRow w.heap.size 3 1 (.slice A p.length c) p.length (l.map (Value.int .i64))) ∧ Hid (l.length = p.length ∧ InR 1000000000 l ∧ val 1000000000 (l.take k) - (1000000000 : Int) ^ k * cc = val 1000000000 (p.take k) - val 1000000000 (q.take k)) ∧ Hid (Below w.heap.size w wr))
  case atStart => exact ⟨0, 0, p, rfl, rfl, .inl rfl, by omega, by omega, by omega, HO.out, ⟨rfl, I1.out, by simp [val]⟩, HB0.out⟩
  case round =>
    obtain ⟨k, cc, l, rfl, rfl, HC, hcc0, hcc1, hg, HOW, HL, HB⟩ := hrel
    have HP := Lib.hid (HR1.out.below HB.out)
    have HQ := Lib.hid (HR2.out.below HB.out)
    have hsz := HB.out.size
    by_cases hlt : k < p.length
    · obtain ⟨g, rfl⟩ : ∃ g, gk = g + 1 := ⟨gk - 1, by omega⟩
      have HG := Lib.hid hg
      clear hg
      obtain ⟨b10, b11⟩ := I1.out.at_ (by decide) k
      obtain ⟨b20, b21⟩ := I2.out.at_ (by decide) k
      rw [List.getD_eq_getElem?_getD] at b10 b11 b20 b21
      obtain ⟨a, rfl, hcell⟩ := HP.out k hlt
      obtain ⟨x, hx⟩ : ∃ x, p[k]?.getD 0 = x := ⟨_, rfl⟩
      obtain ⟨y, hy⟩ : ∃ y, q[k]?.getD 0 = y := ⟨_, rfl⟩
      rw [hx] at b10 b11 hcell
      rw [hy] at b20 b21
      obtain ⟨gb, cap, hv, hgb, hgb2⟩ := HOW.out.form (by omega)
      obtain ⟨rfl, rfl⟩ : A = some ⟨gb, 0, none⟩ ∧ c = cap := by simpa using hv
      clear hv
      obtain ⟨hll, hli, hlv⟩ := HL.out
      have hold : wr.cell? ⟨gb, k, none⟩ = some (.int .i64 (l[k]?.getD 0)) := by
        rw [HOW.out.cellAt k (by omega), List.getElem?_map, List.getElem?_eq_getElem (by omega)]; rfl
      obtain ⟨z, hz⟩ : ∃ z, l[k]?.getD 0 = z := ⟨_, rfl⟩
      rw [hz] at hold
      have hfz : wr.frozen? ⟨gb, k, none⟩ = false := HOW.out.frozenAt k
      have HX := Lib.hid hx
      have HY := Lib.hid hy
      have HLV := Lib.hid hlv
      have HLI := Lib.hid hli
      clear hx hy hz hlv hli
      by_cases hneg : x - y - cc < 0
      · go_wp2_with fail
        go_quiet ((go_at_call 199; exact at_q A2 c2 q k y wr _ HQ.out HY.out))
        go_wp2
        go_roundg g
        case measure => omega
        case rel =>
          refine ⟨k + 1, _, l.set k (x - y - cc + 1000000000), rfl, rfl, .inr rfl, by omega, by omega, by have := HG.out; omega, ?_, ⟨by simpa using hll, HLI.out.set k (by omega) (by omega), diff_step (b := 1000000000) (by omega) HLV.out HX.out HY.out (by omega)⟩, ?_⟩
          · show World.ownsRow _ _ _ _ _ _ _
            rw [List.map_set]
            exact own_drewN (HOW.out.stored k _).1 nq
          · exact below_drewN (HB.out.setCell (p := ⟨gb, k, none⟩) hgb _) nq
      · go_wp2_with fail
        go_quiet ((go_at_call 199; exact at_q A2 c2 q k y wr _ HQ.out HY.out))
        go_wp2
        go_roundg g
        case measure => omega
        case rel =>
          refine ⟨k + 1, _, l.set k (x - y - cc), rfl, rfl, .inl rfl, by omega, by omega, by have := HG.out; omega, ?_, ⟨by simpa using hll, HLI.out.set k (by omega) (by omega), diff_step (b := 1000000000) (by omega) HLV.out HX.out HY.out (by omega)⟩, ?_⟩
          · show World.ownsRow _ _ _ _ _ _ _
            rw [List.map_set]
            exact own_drewN (HOW.out.stored k _).1 nq
          · exact below_drewN (HB.out.setCell (p := ⟨gb, k, none⟩) hgb _) nq
    · obtain rfl : k = p.length := by omega
      obtain ⟨hl, hi, hv⟩ := HL.out
      have hval := Lib.hid (diff_end (b := 1000000000) (by decide) hl hi hv HC.out V1.out V2.out hn HLE.out)
      obtain ⟨A', c', hve, hlc', hcm', hrow, hln⟩ := own_row HOW.out
      have hfrom := own_from HOW.out
      obtain ⟨rfl, -, rfl⟩ : A = A' ∧ p.length = l.length ∧ c = c' := by simpa using hve
      have HROW := Lib.hid hrow
      have HIN := Lib.hid hi
      have HF := Lib.hid hfrom
      have hcm2 : c ≤ 9223372036854775807 := by unfold maxLen at hcm'; omega
      have hlc2 : l.length ≤ c := hlc'
      clear hi hv hrow hfrom hve hln hcm' hlc' HL HOW
      have hlen := Lib.hid hl
      clear hl
      go_wp2_with (go_at_call 222; rw [← hlen.out]; refine (cut_c A c l wr HROW.out hlc2 hcm2).mono ?_; intro e w' hcut; obtain ⟨rfl, v, rfl, hdg, hblk⟩ := cut_dg (b := 1000000000) (by decide) HROW.out hlc2 hcm2 HIN.out hval.out hcut)
      go_ret
      exact ⟨v, rfl, hdg, fun g hg => by obtain ⟨a, rfl, rfl⟩ := hblk g hg; exact HF.out _ rfl, HB.out⟩

end Go.Proofs.YtekbfommnmikbaaGreatDoor

namespace Go.Proofs.YtekbfommnmikbaaGreatDoor
set_option linter.unusedVariables false
set_option linter.unusedSimpArgs false
open Go.RowKit
attribute [local go_sem] max2_int min2_int max_two min_two

theorem own_setCell_other {w : World} {base : Nat} {e : TypeId} {size : Nat} {v : Value} {n : Nat} {xs : List Value} (h : w.ownsRow base e size v n xs) (a : Addr) (u : Value) (hne : v.ownBlock ≠ some a.block) : (w.setCell a u).ownsRow base e size v n xs :=
  h.kept (row := some a.block) ⟨rfl, rfl, rfl, by simp [World.setCell], fun k _ hk => heap_setCell_other w a k u (fun e => hk (by simp [e]))⟩ (.inr hne)

end Go.Proofs.YtekbfommnmikbaaGreatDoor

namespace Go.Proofs.YtekbfommnmikbaaGreatDoor
set_option linter.unusedVariables false
set_option linter.unusedSimpArgs false
open Go.RowKit
attribute [local go_sem] max2_int min2_int max_two min_two

/-- v is the whole z: its sign, and the parts of its magnitude. -/
def Wh (w : World) (v : Value) (z : Int) : Prop := ∃ p, v = .agg #[.bool (decide (z < 0)), p] ∧ Dg 1000000000 w p z.natAbs

theorem Wh.below {w w' : World} {v : Value} {z : Int} (h : Wh w v z) (hb : Below w.heap.size w w') : Wh w' v z := by
  obtain ⟨p, e, hp⟩ := h
  exact ⟨p, e, hp.below hb⟩

theorem Wh.form {w : World} {v : Value} {z : Int} (h : Wh w v z) : ∃ b A n c, v = .agg #[.bool b, .slice A n c] := by
  obtain ⟨p, rfl, A, c, rfl, _⟩ := h
  exact ⟨_, _, _, _, rfl⟩

/-- A call returns the whole z; what was there is as it was. -/
def WhP (z : Int) (w : World) (e : Ending) (w' : World) : Prop := ∃ v, e = .returned v ∧ Wh w' v z ∧ Below w.heap.size w w'

/-- What made returns: the very parts, and the sign, but for 0. -/
def MadeP (b : Bool) (n : Nat) (v : Value) (w : World) (e : Ending) (w' : World) : Prop := e = .returned (.agg #[.bool (b && decide (0 < n)), v]) ∧ Below w.heap.size w w'

set_option maxHeartbeats 1000000 in
theorem made_c (b : Bool) (v : Value) (n : Nat) (w : World) (h : Dg 1000000000 w v n) :
    Calls Tryz.prog 189 #[.bool b, v] w (MadeP b n v w) := by
  have H := Lib.hid h
  obtain ⟨A, c, rfl, hlc, hcm, hr⟩ := h
  have hl : (dg 1000000000 n).length = 0 ↔ n = 0 := by rw [List.length_eq_zero_iff]; exact dg_eq_nil (by decide)
  generalize hL : (dg 1000000000 n).length = L at *
  clear hr
  have HL := Lib.hid hL
  clear hL
  cases b with
  | false =>
    go_enter Tryz.func189, Tryz.ntmps189
    go_wp2
    refine bodyPost_ret (v := .agg #[.bool false, .slice A L c]) (by simp [results, Tryz.results189, go_sem]) rfl ?_
    exact ⟨by simp, (by repeat (first | exact Below.refl _ _ | exact HB.out | (refine Below.alloc ?_ (by first | (simp; done) | (simp; omega)) _) | (refine Below.setCell ?_ (by first | (simp; done) | (simp; omega)) _) | refine Below.drew ?_ | refine below_drewN ?_ _))⟩
  | true =>
    by_cases h0 : 0 < L
    · go_enter Tryz.func189, Tryz.ntmps189
      go_wp2
      refine bodyPost_ret (v := .agg #[.bool true, .slice A L c]) (by simp [results, Tryz.results189, go_sem]) rfl ?_
      exact ⟨by have : 0 < n := by omega
                simp [this], (by repeat (first | exact Below.refl _ _ | exact HB.out | (refine Below.alloc ?_ (by first | (simp; done) | (simp; omega)) _) | (refine Below.setCell ?_ (by first | (simp; done) | (simp; omega)) _) | refine Below.drew ?_ | refine below_drewN ?_ _))⟩
    · go_enter Tryz.func189, Tryz.ntmps189
      go_wp2
      refine bodyPost_ret (v := .agg #[.bool false, .slice A L c]) (by simp [results, Tryz.results189, go_sem]) rfl ?_
      exact ⟨by have : ¬ 0 < n := by omega
                simp [this], (by repeat (first | exact Below.refl _ _ | exact HB.out | (refine Below.alloc ?_ (by first | (simp; done) | (simp; omega)) _) | (refine Below.setCell ?_ (by first | (simp; done) | (simp; omega)) _) | refine Below.drew ?_ | refine below_drewN ?_ _))⟩

theorem Dg.form {b : Nat} {w : World} {v : Value} {n : Nat} (h : Dg b w v n) : ∃ A l c, v = .slice A l c := by
  obtain ⟨A, c, rfl, _⟩ := h
  exact ⟨_, _, _, rfl⟩

/-- v is the whole z, its parts lie from block k on (or nowhere). -/
def WhN (k : Nat) (w : World) (v : Value) (z : Int) : Prop := ∃ p, v = .agg #[.bool (decide (z < 0)), p] ∧ Dg 1000000000 w p z.natAbs ∧ FromB k p
theorem WhN.wh {k : Nat} {w : World} {v : Value} {z : Int} (h : WhN k w v z) : Wh w v z := by
  obtain ⟨p, e, h1, _⟩ := h
  exact ⟨p, e, h1⟩
theorem WhN.below {k : Nat} {w w' : World} {v : Value} {z : Int} (h : WhN k w v z) (hb : Below w.heap.size w w') : WhN k w' v z := by
  obtain ⟨p, e, h1, h2⟩ := h
  exact ⟨p, e, h1.below hb, h2⟩
theorem WhN.set {k : Nat} {w : World} {v : Value} {z : Int} {a : Addr} (h : WhN k w v z) (hk : a.block < k) (x : Value) : WhN k (w.setCell a x) v z := by
  obtain ⟨p, e, h1, h2⟩ := h
  exact ⟨p, e, h1.set h2 hk x, h2⟩
theorem WhN.mono {k k' : Nat} {w : World} {v : Value} {z : Int} (h : WhN k w v z) (hk : k' ≤ k) : WhN k' w v z := by
  obtain ⟨p, e, h1, h2⟩ := h
  exact ⟨p, e, h1, h2.mono hk⟩
/-- A call returns the whole z, newly made. -/
def WhPN (z : Int) (w : World) (e : Ending) (w' : World) : Prop := ∃ v, e = .returned v ∧ WhN w.heap.size w' v z ∧ Below w.heap.size w w'
theorem whPN_mk {z : Int} {w W : World} {b : Bool} {p : Value} (hz : b = decide (z < 0)) (hd : Dg 1000000000 W p z.natAbs) (hf : FromB w.heap.size p) (hb : Below w.heap.size w W) : WhPN z w (.returned (.agg #[.bool b, p])) W :=
  ⟨_, rfl, ⟨p, by rw [hz], hd, hf⟩, hb⟩

end Go.Proofs.YtekbfommnmikbaaGreatDoor

namespace Go.Proofs.YtekbfommnmikbaaGreatDoor
set_option linter.unusedVariables false
set_option linter.unusedSimpArgs false
open Go.RowKit Go.Shelf
attribute [local go_sem] Oper.semAt_some

/-- An index of a list of L. -/
abbrev Ix (L : Nat) := { i : Nat // i < L }
/-- The first k indices from L - 1 down. -/
def dn (L k : Nat) : List (Ix L) := (List.range (min k L)).attach.map fun j => ⟨L - 1 - j.1, by have := List.mem_range.1 j.2; omega⟩
theorem dn_succ (L k : Nat) (h : k < L) : dn L (k + 1) = dn L k ++ [⟨L - 1 - k, by omega⟩] := by
  have e1 : min (k + 1) L = k + 1 := by omega
  have e2 : min k L = k := by omega
  apply List.ext_getElem
  · simp [dn, e1, e2]
  · intro i h1 h2
    have hi : i < k + 1 := by simp [dn, e1] at h1; omega
    by_cases hk : i < k
    · rw [List.getElem_append_left (by simp [dn, e2]; exact hk)]
      simp [dn]
    · obtain rfl : i = k := by omega
      rw [List.getElem_append_right (by simp [dn, e2])]
      simp [dn]
theorem dn_length (L k : Nat) (h : k ≤ L) : (dn L k).length = k := by simp [dn]; omega
theorem dn_zero (L : Nat) : dn L 0 = [] := by simp [dn]

/-- What a round of the loop must keep: the box with the slice, and what lay below n₀. -/
def Kd (n₀ Bs : Nat) (W W' : World) : Prop := Below n₀ W W' ∧ W'.heap[Bs]? = W.heap[Bs]?
theorem Kd.t {n₀ Bs : Nat} {A B C : World} (h : Kd n₀ Bs A B) (k : Kd n₀ Bs B C) : Kd n₀ Bs A C := ⟨h.1.trans k.1, k.2.trans h.2⟩
theorem Kd.b {n₀ Bs : Nat} {w : World} (hn : n₀ ≤ w.heap.size) (hB : Bs < w.heap.size) (W : World) (l : Nat) (o o' : Obj) (hl : w.heap.size ≤ l) (h : W.heap[l]? = some o) (h1 : o.isCells = false) (h2 : o.isWalk = false) : Kd n₀ Bs W (W.putObj l o') :=
  ⟨belowK_b hn W l o o' hl h h1 h2, World.putObj_heap_other (by omega)⟩

set_option maxRecDepth 100000 in
set_option maxHeartbeats 2000000 in
/-- The closure: for every loop body that keeps what it reads. -/
theorem down1_in (F : Fence) (n : Nat) (h7 : F.fn 239) (hro : F.round = none) (hn : 1 ≤ n) (l Bs n₀ : Nat) (A : Option Addr) (cap : Nat) (zs : List Int) (hreach : zs.length ≤ 9223372036854775807) (J Jx : List (Ix zs.length) → World → Prop)
    (W : World) (hA : ∀ a, A = some a → zs.length = 0 ∨ a.block < n₀) (hY : ∀ pre x W1, J pre W1 → pre.length < zs.length → YieldAt F (n - 1) Tryz.prog l #[.int .i64 ((x.1 : Nat) : Int), .int .i64 (zs[x.1]?.getD 0)] W1 fun e W' =>
      (e = .returned (.bool true) ∧ J (pre ++ [x]) W' ∧ Kd n₀ Bs W1 W') ∨ (e = .returned (.bool false) ∧ Jx (pre ++ [x]) W'))
    (hBs : W.cell? ⟨Bs, 0, none⟩ = some (.slice A zs.length cap)) (hc : Row .i64 W A zs) (h0 : J [] W) :
    CallsIn F n Tryz.prog 239 #[.func (.yield l) #[] #[], .pointer (some ⟨Bs, 0, none⟩)] W fun e W' => (∃ v, e = .returned v) ∧
      ((∃ ys, ys = dn zs.length zs.length ∧ J ys W') ∨ (∃ pre, (∃ k, k < zs.length ∧ pre = dn zs.length (k + 1)) ∧ Jx pre W')) := by
  refine callsIn_of_wp Tryz.func239 rfl h7 ?_ hro
  simp only [Tryz.ntmps239, List.size_toArray, List.length_cons, List.length_nil, Nat.reduceAdd, Nat.reduceSub, Array.replicate_succ, Array.replicate_zero, List.push_toArray, List.append_toArray, List.nil_append, List.cons_append]
  have HC := Lib.hid hc
  clear hc
  gi_wp2
  have HBs := Lib.hid hBs
  clear hBs
  gi_loopw [3] (fun i wr => ∃ k : Nat, k ≤ zs.length ∧ i = .int .i64 ((zs.length : Int) - 1 - k) ∧ J (dn zs.length k) wr ∧ Hid (Kd n₀ Bs W wr))
    (fun i _ => (intOf i + 1).toNat)
  case atStart => exact ⟨0, Nat.zero_le _, by simp, by rw [dn_zero]; exact h0, ⟨Below.refl _ _, rfl⟩⟩
  case round =>
    obtain ⟨k, hk, rfl, hJs, HX⟩ := hrel
    have hbx : wr.cell? ⟨Bs, 0, none⟩ = some (.slice A zs.length cap) := (World.cell?_of_block (w := W) (a := ⟨Bs, 0, none⟩) HX.out.2).trans HBs.out
    by_cases hlt : k < zs.length
    · obtain ⟨j, hj⟩ : ∃ j, zs.length = k + j + 1 := ⟨zs.length - k - 1, by omega⟩
      have HJ := Lib.hid hj
      have hjl : j < zs.length := by omega
      have ej : ((zs.length : Int) - 1 - k) = (j : Int) := by omega
      rw [ej]
      obtain ⟨a, rfl, hcell⟩ := HC.out j (by omega)
      have hcj : wr.cell? (a.add j) = some (.int .i64 (zs[j]?.getD 0)) := (HX.out.1.cell (by rw [add_block]; exact (hA a rfl).resolve_left (by omega))).trans hcell
      clear hcell
      obtain ⟨fn, tmps, assign, body, hy, hR⟩ := hY _ ⟨j, hjl⟩ wr hJs (by rw [dn_length _ _ hk]; exact hlt)
      have e5 : dn zs.length (k + 1) = dn zs.length k ++ [⟨j, hjl⟩] := by rw [dn_succ _ _ hlt]; congr 3; omega
      have HE := Lib.hid e5
      dsimp only at hy
      clear hj e5 ej
      generalize hz : zs[j]?.getD 0 = z at *
      have HZ := Lib.hid hz
      clear hz
      gi_wp2
      refine hR.mono ?_
      rintro e W3 (⟨rfl, hJ3, hk3⟩ | ⟨rfl, hJx3⟩)
      · gi_wp2
        go_roundw
        case rel => exact ⟨k + 1, by omega, by have := HJ.out; first | (simp; done) | (simp; omega), by rw [HE.out]; exact hJ3, HX.out.t hk3⟩
        case measure => first | (simp [intOf]; done) | (simp [intOf]; have := HJ.out; omega)
      · gi_wp2
        refine bodyPost_ret (results_none rfl _ _ _) rfl ?_
        exact ⟨⟨_, rfl⟩, .inr ⟨_, ⟨k, by omega, HE.out.symm⟩, hJx3⟩⟩
    · obtain rfl : k = zs.length := by omega
      gi_wp2
      go_end0
      exact ⟨⟨_, rfl⟩, .inl ⟨_, rfl, hJs⟩⟩

set_option maxHeartbeats 1000000 in
/-- down: the slice value is boxed; the function value captures the box. -/
theorem down_in (F : Fence) (n : Nat) (h5 : F.fn 223) (hro : F.round = none) (a : Option Addr) (len cap : Nat) (w : World) :
    CallsIn F n Tryz.prog 223 #[.slice a len cap] w fun e w' => e = .returned (.func (.func 239) #[] #[.pointer (some ⟨w.heap.size, 0, none⟩)]) ∧ w' = w.alloc (.cells #[.slice a len cap] 134) := by
  refine callsIn_of_wp Tryz.func223 rfl h5 ?_ hro
  simp only [Tryz.ntmps223, List.size_toArray, List.length_cons, List.length_nil, Nat.reduceAdd, Nat.reduceSub, Array.replicate_succ, Array.replicate_zero, List.push_toArray, List.append_toArray, List.nil_append, List.cons_append]
  gi_wp2
  go_ret
  exact ⟨rfl, rfl⟩

theorem down_stops (F : Fence) (n : Nat) (h7 : F.fn 239) (hro : F.round = none) (hn : 1 ≤ n) (Bs n₀ : Nat) (A : Option Addr) (cap : Nat) (zs : List Int) (hreach : zs.length ≤ 9223372036854775807) (w : World) (hBs : Bs < w.heap.size)
    (hA : ∀ a, A = some a → zs.length = 0 ∨ a.block < n₀) (hn₀ : n₀ ≤ w.heap.size) (hc : w.cell? ⟨Bs, 0, none⟩ = some (.slice A zs.length cap)) (hI : Row .i64 w A zs) :
    SeqStopsK F n Tryz.prog 239 #[.pointer (some ⟨Bs, 0, none⟩)] (fun x : Ix zs.length => #[Value.int .i64 ((x.1 : Nat) : Int), Value.int .i64 (zs[x.1]?.getD 0)]) (Kd n₀ Bs) (fun ys => ys = dn zs.length zs.length) (fun pre => ∃ k, k < zs.length ∧ pre = dn zs.length (k + 1)) zs.length w := fun l J Jx W hW _ _ hY h0 =>
  down1_in F n h7 hro hn l Bs n₀ A cap zs hreach J Jx W hA hY ((hW.cell (p := ⟨Bs, 0, none⟩) hBs).trans hc) (hI.below hW) h0

theorem sgn_lt {a : Int} (h : a < 0) : sgn a = -1 := by simp [sgn, h]
theorem sgn_gt {a : Int} (h : 0 < a) : sgn a = 1 := by unfold sgn; rw [if_neg (by omega), if_pos h]
theorem sgn_zero : sgn 0 = 0 := by simp [sgn]

/-- Numbers with as many digits are ordered by the first digits that differ. -/
theorem cmp_top {b : Nat} (hb : 2 ≤ b) {m n : Nat} (hlen : (dg b m).length = (dg b n).length) (i : Nat) (hi : i < (dg b m).length)
    (heq : ∀ j, i < j → j < (dg b m).length → (dg b m)[j]?.getD 0 = (dg b n)[j]?.getD 0) (hne : (dg b m)[i]?.getD 0 ≠ (dg b n)[i]?.getD 0) :
    sgn ((dg b m)[i]?.getD 0 - (dg b n)[i]?.getD 0) = sgn ((m : Int) - n) := by
  have hd : (dg b m).drop (i + 1) = (dg b n).drop (i + 1) := by
    apply List.ext_getElem
    · simp [hlen]
    · intro j h1 h2
      simp at h1 h2
      have := heq (i + 1 + j) (by omega) (by omega)
      rw [List.getElem?_eq_getElem (by omega), List.getElem?_eq_getElem (by omega)] at this
      simpa using this
  have v1 := val_dg hb m
  have v2 := val_dg hb n
  simp only [← List.getD_eq_getElem?_getD] at hne ⊢
  rcases Int.lt_trichotomy ((dg b m).getD i 0) ((dg b n).getD i 0) with h | h | h
  · have := val_lt_of_top (dg_inR hb m) (dg_inR hb n) hlen i hi hd h
    rw [sgn_lt (by omega), sgn_lt (by omega)]
  · exact absurd h hne
  · have := val_lt_of_top (dg_inR hb n) (dg_inR hb m) hlen.symm i (by omega) hd.symm h
    rw [sgn_gt (by omega), sgn_gt (by omega)]

theorem cmp_len {b : Nat} (hb : 2 ≤ b) {m n : Nat} (hne : (dg b m).length ≠ (dg b n).length) : sgn (((dg b m).length : Int) - (dg b n).length) = sgn ((m : Int) - n) := by
  rcases Nat.lt_or_gt_of_ne hne with h | h
  · have : m < n := by
      rcases Nat.lt_or_ge m n with h' | h'
      · exact h'
      · have := dg_length_mono hb h'; omega
    rw [sgn_lt (by omega), sgn_lt (by omega)]
  · have : n < m := by
      rcases Nat.lt_or_ge n m with h' | h'
      · exact h'
      · have := dg_length_mono hb h'; omega
    rw [sgn_gt (by omega), sgn_gt (by omega)]

theorem cmp_eq {b : Nat} (hb : 2 ≤ b) {m n : Nat} (hlen : (dg b m).length = (dg b n).length) (heq : ∀ j, j < (dg b m).length → (dg b m)[j]?.getD 0 = (dg b n)[j]?.getD 0) : m = n := by
  refine dg_inj hb (List.ext_getElem hlen fun j h1 h2 => ?_)
  have := heq j h1
  rw [List.getElem?_eq_getElem h1, List.getElem?_eq_getElem h2] at this
  simpa using this

theorem mem_dn {L k : Nat} {i : Ix L} : i ∈ dn L k ↔ ∃ j, j < k ∧ j < L ∧ i.1 = L - 1 - j := by
  simp only [dn, List.mem_map, List.mem_attach, true_and, Subtype.exists, List.mem_range]
  constructor
  · rintro ⟨j, hj, rfl⟩
    exact ⟨j, by omega, by omega, rfl⟩
  · rintro ⟨j, h1, h2, h3⟩
    exact ⟨j, by omega, Subtype.ext h3.symm⟩

set_option maxRecDepth 100000 in
set_option maxHeartbeats 4000000 in
theorem compare_in (v1 v2 : Value) (m n : Nat) (w : World) (h1 : Dg 1000000000 w v1 m) (h2 : Dg 1000000000 w v2 n) :
    CallsIn Fence.wide 6 Tryz.prog 191 #[v1, v2] w fun e w' => e = .returned (.int .i64 (sgn ((m : Int) - n))) ∧ Below w.heap.size w w' := by
  obtain ⟨A1, c1, rfl, hc1, hm1, hr1⟩ := h1
  obtain ⟨A2, c2, rfl, hc2, hm2, hr2⟩ := h2
  have HR1 := Lib.hid hr1
  have HR2 := Lib.hid hr2
  have CL := Lib.hid (@cmp_len 1000000000 (by decide) m n)
  have CT := Lib.hid (@cmp_top 1000000000 (by decide) m n)
  have CE := Lib.hid (@cmp_eq 1000000000 (by decide) m n)
  have hAb : ∀ a, A1 = some a → (dg 1000000000 m).length = 0 ∨ a.block < w.heap.size := fun a ha => by
    rcases Nat.eq_zero_or_pos (dg 1000000000 m).length with h | h
    · exact .inl h
    · obtain ⟨a', e', hc'⟩ := hr1 0 h
      rw [ha] at e'; cases e'
      exact .inr (by have := World.block_lt_of_cell? w _ hc'; rwa [add_block] at this)
  have hbd : ∀ i, i < (dg 1000000000 m).length → ∀ z y, (dg 1000000000 m)[i]?.getD 0 = z → (dg 1000000000 n)[i]?.getD 0 = y → -1000000000 ≤ z - y ∧ z - y ≤ 1000000000 := fun i _ z y hz hy => by
    have b1 := (dg_inR (b := 1000000000) (by decide) m).at_ (by decide) i
    have b2 := (dg_inR (b := 1000000000) (by decide) n).at_ (by decide) i
    rw [List.getD_eq_getElem?_getD] at b1 b2
    rw [hz] at b1; rw [hy] at b2; omega
  clear hr1 hr2
  have HAB := Lib.hid hAb
  have HBD := Lib.hid hbd
  clear hAb hbd
  generalize dg 1000000000 m = p at *
  generalize dg 1000000000 n = q at *
  by_cases hlen : p.length = q.length
  · have HLEN := Lib.hid hlen
    have hlb : ((p.length : Int) != (q.length : Int)) = false := by simp [hlen]
    refine callsIn_of_wp_marks Tryz.func191 rfl trivial ?_ rfl
    simp only [Tryz.ntmps191, List.size_toArray, List.length_cons, List.length_nil, Nat.reduceAdd, Nat.reduceSub, Array.replicate_succ, Array.replicate_zero, List.push_toArray, List.append_toArray, List.nil_append, List.cons_append]
    clear hlen
    gi_wp2_with (refine ⟨trivial, ?_⟩; gi_at_call 223; refine (down_in Fence.wide (6 - 1) trivial rfl _ _ _ _).mono ?_; rintro e w' ⟨rfl, rfl⟩)
    obtain ⟨W, hW, k0, k1, k2, f0, f1, f2, hbel, hsz⟩ := boxes3 w #[.slice A2 q.length c2] #[.int .i64 0] #[.slice A1 p.length c1] 134 3 134
    rw [hW]
    have c0 : W.cell? ⟨w.heap.size, 0, none⟩ = some (.slice A2 q.length c2) := k0 0
    have c1_ : W.cell? ⟨w.heap.size + 1, 0, none⟩ = some (.int .i64 0) := k1 0
    have c2_ : W.cell? ⟨w.heap.size + 1 + 1, 0, none⟩ = some (.slice A1 p.length c1) := k2 0
    have f1_ : W.frozen? ⟨w.heap.size + 1, 0, none⟩ = false := f1 0
    clear k0 k1 k2 f0 f1 f2
    refine wpIn_rangeFunc_ownF rfl (by decide) (gf := 239) (lb := #[.pointer (some ⟨w.heap.size + 1 + 1, 0, none⟩)]) rfl trivial (enters_of Tryz.func239 (by kernel_rfl) rfl)
      (down_stops Fence.wide (6 - 1) trivial rfl (by decide) (w.heap.size + 1 + 1) w.heap.size A1 c1 p (by omega) W (by rw [hsz]; omega) (fun a ha => ?hA) (by rw [hsz]; omega) c2_ (HR1.out.below hbel.to)) Kd.t (Kd.b (by rw [hsz]; omega) (by rw [hsz]; omega)) (Below.refl _ _) (fun _ => rfl)
      (fun pre W' => ((∀ i ∈ pre, p[i.1]?.getD 0 = q[i.1]?.getD 0) ∧ W'.cell? ⟨w.heap.size, 0, none⟩ = some (.slice A2 q.length c2) ∧ W'.cell? ⟨w.heap.size + 1, 0, none⟩ = some (.int .i64 0) ∧ W'.frozen? ⟨w.heap.size + 1, 0, none⟩ = false) ∧ Below w.heap.size w W')
      (fun c pre W' => (c = .ret ∧ ∃ ini last, pre = ini ++ [last] ∧ (∀ i ∈ ini, p[i.1]?.getD 0 = q[i.1]?.getD 0) ∧ p[last.1]?.getD 0 ≠ q[last.1]?.getD 0 ∧ W'.cell? ⟨w.heap.size + 1, 0, none⟩ = some (.int .i64 (sgn (p[last.1]?.getD 0 - q[last.1]?.getD 0)))) ∧ Below w.heap.size w W')
      (OwnFrom.and (Own.from (fun s X Y row hs hg hr => ⟨hs.1, cell_kept hs.2.1 hg hr, cell_kept hs.2.2.1 hg hr, (frozen_kept hs.2.2.1 hg hr).trans hs.2.2.2⟩) _) (ownFrom_below (Nat.le_refl _) (by rw [hsz]; omega)))
      (fun c => OwnFrom.and (Own.from (fun s X Y row hs hg hr => by obtain ⟨hc, ini, last, e1, e2, e3, e4⟩ := hs; exact ⟨hc, ini, last, e1, e2, e3, cell_kept e4 hg hr⟩) _) (ownFrom_below (Nat.le_refl _) (by rw [hsz]; omega)))
      ⟨⟨by simp, c0, c1_, f1_⟩, hbel.to⟩
      (fun x => { tmps := (.slice A1 p.length c1 :: .slice A2 q.length c2 :: undef :: .pointer (some ⟨w.heap.size, 0, none⟩) :: .pointer (some ⟨w.heap.size + 1, 0, none⟩) :: .int .i64 ((x.1 : Nat) : Int) :: .int .i64 (p[x.1]?.getD 0) :: .slice A1 p.length c1 :: .int .i64 p.length :: .slice A2 q.length c2 :: .int .i64 q.length :: .bool false :: undef :: undef :: undef :: undef :: undef :: undef :: .slice A1 p.length c1 :: .func (.func 239) #[] #[.pointer (some ⟨w.heap.size + 1 + 1, 0, none⟩)] :: .int .i64 ((x.1 : Nat) : Int) :: .int .i64 (p[x.1]?.getD 0) :: undef :: undef :: undef :: undef :: undef :: undef :: undef :: undef :: undef :: undef :: undef :: undef :: undef :: []).toArray, defers := [] }) ?assign ?body ?done ?stop
    case hA => exact HAB.out a ha
    case assign =>
      intro l x W K hK
      gi_wp2
      exact hK
    case body =>
      rintro l pre x W' ⟨⟨hp, hq, hcr, hfr⟩, hB⟩ hpl
      have hqx := HR2.out.below hB
      obtain ⟨a2, ha2, hc2⟩ := hqx x.1 (by rw [← HLEN.out]; exact x.2)
      have hxq : (x.1 : Int) < q.length := by have := x.2; have := HLEN.out; omega
      obtain ⟨xi, hxi⟩ := x
      dsimp only at *
      subst ha2
      obtain ⟨y, hy⟩ : ∃ y, q[xi]?.getD 0 = y := ⟨_, rfl⟩
      obtain ⟨z, hz⟩ : ∃ z, p[xi]?.getD 0 = z := ⟨_, rfl⟩
      rw [hy] at hc2
      rw [hz]
      have HY := Lib.hid hy
      have HZ := Lib.hid hz
      have HPP := Lib.hid hp
      have HBB := Lib.hid hB
      clear hy hz hp hB
      by_cases hzy : z = y
      · have hb : (z != y) = false := by simp [hzy]
        have HZY := Lib.hid hzy
        clear hzy
        gi_wp2_with fail
        exact ⟨KeepsOthers.refl _, ⟨Below.refl _ _, rfl⟩, ⟨fun i hi => (List.mem_append.1 hi).elim (HPP.out i) (fun e => by simp at e; subst e; rw [HZ.out, HY.out, HZY.out]), hq, hcr, hfr⟩, HBB.out⟩
      · have hb : (z != y) = true := by simp [hzy]
        have HZY := Lib.hid hzy
        have hzb : -1000000000 ≤ z - y ∧ z - y ≤ 1000000000 := HBD.out xi hxi z y HZ.out HY.out
        obtain ⟨hzb1, hzb2⟩ := hzb
        clear hzy
        gi_wp2_with (refine ⟨trivial, ?_⟩; gi_at_call 193; refine (CallsIn.inRound l (callsIn_wide.2 (sign_c _ _))).mono ?_; rintro e w' ⟨rfl, rfl⟩)
        exact ⟨KeepsOthers.setCell _ _ _, ⟨rfl, pre, ⟨xi, hxi⟩, rfl, HPP.out, by simp only []; rw [HZ.out, HY.out]; exact HZY.out, by simp only []; rw [HZ.out, HY.out]; exact set_same _ hcr⟩, HBB.out.setCell (p := ⟨w.heap.size + 1, 0, none⟩) (by simp) _⟩
    case done =>
      rintro D ys W' hD rfl ⟨⟨hne, hq, hcr, hfr⟩, hB⟩ hK
      have HK := Lib.hid hK
      have HNE := Lib.hid hne
      have HBB := Lib.hid hB
      clear hK hne hB
      gi_wp2
      have hK' := (KeepsOthers.setCell W' ⟨w.heap.size + 1, 0, none⟩ (.int .i64 0)).same D _ HK.out rfl
      refine ⟨by simp, .inl ⟨_, _, rfl, run_takeDeferred hK', ?_⟩⟩
      have hc5 := cell_kept (set_same (.int .i64 0) hcr) (grownBy_putObj' _ D (.deferred none)) (fun r e => by cases e; exact ⟨_, hK', rfl⟩)
      have emn : m = n := CE.out HLEN.out (fun j hj => HNE.out ⟨j, hj⟩ (mem_dn.2 ⟨p.length - 1 - j, by omega, by omega, by simp; omega⟩))
      refine ⟨.int .i64 0, ?_, ⟨by rw [emn, Int.sub_self, sgn_zero], (HBB.out.setCell (p := ⟨w.heap.size + 1, 0, none⟩) (by simp) _).trans (belowK_b (w := w) (Nat.le_refl _) _ D _ _ (by omega) hK' rfl rfl)⟩⟩
      simp [results, Tryz.f191, go_sem, hc5]
    case stop =>
      rintro D c pre W' hD ⟨k, hk, rfl⟩ ⟨⟨rfl, ini, last, e1, e2, e3, hcr⟩, hB⟩ hK
      have HK := Lib.hid hK
      have HBB := Lib.hid hB
      rw [dn_succ _ _ hk] at e1
      obtain ⟨rfl, e5⟩ := List.append_inj' e1 rfl
      have hkk : p.length - 1 - k < p.length := by omega
      have e6 : last = ⟨p.length - 1 - k, hkk⟩ := by simpa using e5.symm
      subst e6
      have hs := CT.out HLEN.out (p.length - 1 - k) (by omega) (fun j h1 h2 => e2 ⟨j, h2⟩ (mem_dn.2 ⟨p.length - 1 - j, by omega, by omega, by simp; omega⟩)) e3
      rw [hs] at hcr
      have HS := Lib.hid hs
      clear hK hB e1 e2 e3 e5 hs
      gi_wp2
      refine ⟨by simp, .inl ⟨_, _, rfl, run_takeDeferred HK.out, ?_⟩⟩
      have hc5 := cell_kept hcr (grownBy_putObj' _ D (.deferred none)) (fun r e => by cases e; exact ⟨_, HK.out, rfl⟩)
      refine ⟨.int .i64 (sgn ((m : Int) - n)), ?_, rfl, HBB.out.trans (belowK_b (w := w) (Nat.le_refl _) W' D _ _ (by omega) HK.out rfl rfl)⟩
      simp [results, Tryz.f191, go_sem, hc5]
  · have CLL := Lib.hid (CL.out hlen)
    have hlb : ((p.length : Int) != (q.length : Int)) = true := by simp; omega
    refine callsIn_wide.2 ?_
    clear hlen
    go_enter Tryz.func191, Tryz.ntmps191
    go_wp2_with (go_at_call 193; refine (sign_c _ _).mono ?_; rintro e w' ⟨rfl, rfl⟩)
    refine bodyPost_ret (v := .int .i64 (sgn ((p.length : Int) - q.length))) (by simp [results, Tryz.results191, go_sem]) rfl ?_
    exact ⟨by rw [CLL.out], (by repeat (first | exact Below.refl _ _ | exact HB.out | (refine Below.alloc ?_ (by first | (simp; done) | (simp; omega)) _) | (refine Below.setCell ?_ (by first | (simp; done) | (simp; omega)) _) | refine Below.drew ?_ | refine below_drewN ?_ _))⟩

theorem compare_c (v1 v2 : Value) (m n : Nat) (w : World) (h1 : Dg 1000000000 w v1 m) (h2 : Dg 1000000000 w v2 n) :
    Calls Tryz.prog 191 #[v1, v2] w fun e w' => e = .returned (.int .i64 (sgn ((m : Int) - n))) ∧ Below w.heap.size w w' :=
  callsIn_wide.1 (compare_in v1 v2 m n w h1 h2)

end Go.Proofs.YtekbfommnmikbaaGreatDoor

namespace Go.Proofs.YtekbfommnmikbaaGreatDoor
set_option linter.unusedVariables false
set_option linter.unusedSimpArgs false
open Go.RowKit Go.Shelf
attribute [local go_sem] Oper.semAt_some

/-- What a round keeps. -/
structure Ov (B Bs : Nat) (W W' : World) : Prop where
  b : Below B W W'
  ko : KeepsOthers W W'
  bx : W'.heap[Bs]? = W.heap[Bs]?
  lt : B ≤ W.heap.size ∧ Bs < W.heap.size
theorem keepsOthers_below {W W' : World} (h : Below W.heap.size W W') : KeepsOthers W W' :=
  ⟨h.size, fun k o hk _ => (h.block k (Array.getElem?_eq_some_iff.1 hk).1).trans hk⟩
theorem Ov.refl {B Bs : Nat} {W : World} (h : B ≤ W.heap.size) (h' : Bs < W.heap.size) : Ov B Bs W W := ⟨Below.refl _ _, KeepsOthers.refl _, rfl, h, h'⟩
theorem Ov.call {B Bs : Nat} {W W1 W2 : World} (h : Ov B Bs W W1) (k : Below W1.heap.size W1 W2) : Ov B Bs W W2 :=
  ⟨h.b.trans (k.mono (Nat.le_trans h.lt.1 h.b.size)), h.ko.trans (keepsOthers_below k), (k.block Bs (Nat.lt_of_lt_of_le h.lt.2 h.b.size)).trans h.bx, h.lt⟩
theorem Ov.drew {B Bs : Nat} {W W1 : World} (h : Ov B Bs W W1) : Ov B Bs W W1.drew := h.call (Below.refl _ _).drew
theorem Ov.alloc {B Bs : Nat} {W W1 : World} (h : Ov B Bs W W1) (o : Obj) : Ov B Bs W (W1.alloc o) := h.call ((Below.refl _ _).alloc (Nat.le_refl _) o)
theorem Ov.set {B Bs : Nat} {W W1 : World} (h : Ov B Bs W W1) {a : Addr} (v : Value) (h1 : B ≤ a.block) (h2 : a.block ≠ Bs) : Ov B Bs W (W1.setCell a v) :=
  ⟨h.b.setCell h1 v, h.ko.trans (KeepsOthers.setCell _ _ _), (heap_setCell_other W1 a Bs v (fun e => h2 e.symm)).trans h.bx, h.lt⟩
theorem row_kept {k : IntKind} {W W' : World} {A : Option Addr} {xs : List Int} {row : Option Nat} (h : Row k W A xs) (hg : W.grownBy W' row) (hr : ∀ r, row = some r → ∃ o : Obj, W.heap[r]? = some o ∧ o.isCells = false) : Row k W' A xs := by
  intro j hj
  obtain ⟨a, e, hc⟩ := h j hj
  exact ⟨a, e, cell_kept hc hg hr⟩
theorem own_kept {W W' : World} {base : Nat} {e : TypeId} {size : Nat} {v : Value} {n : Nat} {xs : List Value} {row : Option Nat} (h : W.ownsRow base e size v n xs) (hg : W.grownBy W' row) (hr : ∀ r, row = some r → ∃ o : Obj, W.heap[r]? = some o ∧ o.isCells = false) : W'.ownsRow base e size v n xs := by
  refine h.kept hg ?_
  rcases h.2 with ⟨rfl, _⟩ | ⟨g, cap, cur, rfl, _, hh, _⟩
  · exact .inl rfl
  · refine .inr fun e' => ?_
    obtain ⟨o, ho, hc⟩ := hr g e'.symm
    rw [hh] at ho; cases ho; cases hc
theorem own_below {w w' : World} {base : Nat} {e : TypeId} {size : Nat} {v : Value} {n : Nat} {xs : List Value} (h : w.ownsRow base e size v n xs) (hb : Below w.heap.size w w') : w'.ownsRow base e size v n xs := by
  rcases h.2 with ⟨rfl, h0⟩ | ⟨g, cap, cur, rfl, h1, hh, h2⟩
  · exact ⟨h.1, .inl ⟨rfl, h0⟩⟩
  · exact ⟨h.1, .inr ⟨g, cap, cur, rfl, h1, (hb.block g (Array.getElem?_eq_some_iff.1 hh).1).trans hh, h2⟩⟩

theorem Dg.zero {b : Nat} (hb : 2 ≤ b) (W : World) : Dg b W (.slice none 0 0) 0 := by
  unfold Dg
  rw [dg_zero]
  exact ⟨none, 0, rfl, Nat.le_refl _, Nat.zero_le _, Row.nil⟩

end Go.Proofs.YtekbfommnmikbaaGreatDoor
/- Texts of magnitudes; integers: sums. -/
namespace Go.Proofs.YtekbfommnmikbaaGreatDoor
set_option linter.unusedVariables false
set_option linter.unusedSimpArgs false
open Go.RowKit Go.Shelf Go.Proofs

theorem info_byte : (Tryz.prog.info? 5).map (fun i => (i.zero, i.size, i.bytes)) = some (some (.int .u8 0), 1, 1) := by kernel_rfl

end Go.Proofs.YtekbfommnmikbaaGreatDoor

namespace Go.Proofs.YtekbfommnmikbaaGreatDoor
set_option linter.unusedVariables false
set_option linter.unusedSimpArgs false
open Go.RowKit Go.Shelf Go.Proofs
attribute [local go_sem] Oper.semAt_some

/-- k decimal digits, zeros ahead. -/
def pad : Nat → Nat → List UInt8
  | 0, _ => []
  | k + 1, d => pad k (d / 10) ++ [UInt8.ofNat (48 + d % 10)]

theorem pad_zero : ∀ k, pad k 0 = Lib.repeatL [48] k
  | 0 => rfl
  | k + 1 => by
    rw [pad, Nat.zero_div, pad_zero k, Lib.repeatL_add [48] k 1]
    rfl

theorem decDigits_shift : ∀ (k d v : Nat), 0 < v → d < 10 ^ k → Lib.decDigits (d + 10 ^ k * v) = Lib.decDigits v ++ pad k d
  | 0, d, v, _, hd => by
    obtain rfl : d = 0 := by simpa using hd
    simp [pad]
  | k + 1, d, v, hv, hd => by
    have hp : 1 ≤ 10 ^ k := Nat.one_le_pow _ _ (by decide)
    have h1 : 10 ^ k * 1 ≤ 10 ^ k * v := Nat.mul_le_mul_left _ hv
    have h2 : ¬ d + 10 ^ (k + 1) * v < 10 := by rw [Nat.pow_succ, Nat.mul_right_comm]; omega
    have e1 : (d + 10 ^ (k + 1) * v) / 10 = d / 10 + 10 ^ k * v := by rw [Nat.pow_succ, Nat.mul_right_comm]; omega
    have e2 : (d + 10 ^ (k + 1) * v) % 10 = d % 10 := by rw [Nat.pow_succ, Nat.mul_right_comm]; omega
    rw [Lib.decDigits, dif_neg h2, e1, e2, decDigits_shift k (d / 10) v hv (by rw [Nat.pow_succ] at hd; omega), pad, List.append_assoc]

theorem builder_below {T e : TypeId} {B b : Nat} {bs : List Value} {W W' : World} (h : Lib.IsBuilder T e B b bs W) (hb : Below W.heap.size W W') : Lib.IsBuilder T e B b bs W' := by
  have key : ∀ p, Lib.BuilderAt T e B b p bs W → Lib.BuilderAt T e B b p bs W' := by
    rintro p ⟨hB, v, hbk, hown, hne⟩
    exact ⟨hB, v, (hb.block b (Array.getElem?_eq_some_iff.1 hbk).1).trans hbk, own_below hown hb, hne⟩
  exact h.elim (fun x => .inl (key _ x)) (fun x => .inr (key _ x))
theorem heap_below {W W' : World} {b : Nat} {o : Obj} (h : W.heap[b]? = some o) (hb : Below W.heap.size W W') : W'.heap[b]? = some o := (hb.block b (Array.getElem?_eq_some_iff.1 h).1).trans h
theorem var_stay {P : Program} {W W' : World} {n : String} {cs : Array Value} (h : W.var? P n = some cs) (hb : Below W.heap.size W W') : W'.var? P n = some cs := by
  unfold World.var? at h ⊢
  cases hg : P.globalNamed n with
  | none => rw [hg] at h; cases h
  | some g =>
    rw [hg] at h
    simp only [Option.bind_some] at h ⊢
    have hlt : g < W.heap.size := by
      rcases Nat.lt_or_ge g W.heap.size with h' | h'
      · exact h'
      · rw [Array.getElem?_eq_none h'] at h; cases h
    rw [hb.block g hlt]
    exact h

/-- What the texts read of the tables that start-up code lays. -/
structure Tabs (w : World) : Prop where
  pow10 : Lib.TabIs Tryz.prog w "internal/strconv.uint64pow10" .u64 Lib.pow10Tab
  range : ∃ tp p, w.var? Tryz.prog "strconv.ErrRange" = some #[.iface tp p]
  syn : ∃ tp p, w.var? Tryz.prog "strconv.ErrSyntax" = some #[.iface tp p]
theorem Tabs.below {w w' : World} (h : Tabs w) (hb : Below w.heap.size w w') : Tabs w' :=
  ⟨var_stay h.pow10 hb, h.range.imp fun _ h => h.imp fun _ h => var_stay h hb, h.syn.imp fun _ h => h.imp fun _ h => var_stay h hb⟩

/-- Where a round of String stands. -/
structure SB (B : Nat) (V : World) (v : Value) (bs : List Value) (V1 : World) : Prop where
  hp : V1.heap[B]? = some (.cells #[v] 134 (0, 0))
  hd : V1.heap[B + 1 + 1]? = some (.cells #[v] 134 (0, 0))
  bu : Lib.IsBuilder 166 5 B (B + 1) bs V1
  ov : Ov B (B + 1 + 1) V V1
theorem SB.call {B : Nat} {V : World} {v : Value} {bs : List Value} {V1 V2 : World} (h : SB B V v bs V1) (hb : Below V1.heap.size V1 V2) : SB B V v bs V2 :=
  ⟨heap_below h.hp hb, heap_below h.hd hb, builder_below h.bu hb, h.ov.call hb⟩
theorem SB.size {B : Nat} {V : World} {v : Value} {bs : List Value} {V1 : World} (h : SB B V v bs V1) : B ≤ V1.heap.size := by
  have := (Array.getElem?_eq_some_iff.1 h.hp).1
  omega

end Go.Proofs.YtekbfommnmikbaaGreatDoor

namespace Go.Proofs.YtekbfommnmikbaaGreatDoor
set_option linter.unusedVariables false
set_option linter.unusedSimpArgs false
open Go.RowKit
attribute [local go_sem] max2_int min2_int max_two min_two

theorem add_sign_same {x y : Int} {bx by_ : Bool} (h1 : decide (x < 0) = bx) (h2 : decide (y < 0) = by_) (h3 : bx = by_) : x.natAbs + y.natAbs = (x + y).natAbs ∧ (bx && decide (0 < x.natAbs + y.natAbs)) = decide (x + y < 0) := by
  subst h3
  have h4 : (x < 0) ↔ (y < 0) := by rw [← decide_eq_decide, h1, h2]
  subst h1
  by_cases hx : x < 0
  · have hy := h4.1 hx
    refine ⟨by omega, ?_⟩
    rw [decide_eq_true hx, decide_eq_true (by omega : 0 < x.natAbs + y.natAbs), decide_eq_true (by omega : x + y < 0)]; rfl
  · have hy : ¬ y < 0 := fun h => hx (h4.2 h)
    refine ⟨by omega, ?_⟩
    rw [decide_eq_false hx, decide_eq_false (by omega : ¬ x + y < 0)]; rfl
theorem add_sign_ge {x y : Int} {bx by_ : Bool} (h1 : decide (x < 0) = bx) (h2 : decide (y < 0) = by_) (h3 : ¬ bx = by_) (h : y.natAbs ≤ x.natAbs) : x.natAbs - y.natAbs = (x + y).natAbs ∧ (bx && decide (0 < x.natAbs - y.natAbs)) = decide (x + y < 0) := by
  have h4 : ¬ ((x < 0) ↔ (y < 0)) := by rw [← decide_eq_decide, h1, h2]; exact h3
  subst h1
  by_cases hx : x < 0
  · have hy : ¬ y < 0 := fun k => h4 ⟨fun _ => k, fun _ => hx⟩
    refine ⟨by omega, ?_⟩
    rw [decide_eq_true hx, Bool.true_and, decide_eq_decide]; omega
  · have hy : y < 0 := by
      rcases Int.lt_or_le y 0 with k | k
      · exact k
      · exact absurd ⟨fun a => absurd a hx, fun a => absurd a (by omega)⟩ h4
    refine ⟨by omega, ?_⟩
    rw [decide_eq_false hx, decide_eq_false (by omega : ¬ x + y < 0)]; rfl
theorem add_sign_lt {x y : Int} {bx by_ : Bool} (h1 : decide (x < 0) = bx) (h2 : decide (y < 0) = by_) (h3 : ¬ bx = by_) (h : ¬ y.natAbs ≤ x.natAbs) : y.natAbs - x.natAbs = (x + y).natAbs ∧ (by_ && decide (0 < y.natAbs - x.natAbs)) = decide (x + y < 0) := by
  rw [Int.add_comm x y]
  exact add_sign_ge h2 h1 (fun e => h3 e.symm) (by omega)

set_option maxHeartbeats 2000000 in
set_option maxRecDepth 100000 in
theorem add_same (v1 v2 : Value) (x y : Int) (w : World) (h1 : Wh w v1 x) (h2 : Wh w v2 y) (hm : (dg 1000000000 x.natAbs).length ≤ 1000000) (hn : (dg 1000000000 y.natAbs).length ≤ 1000000) (hxy : decide (x < 0) = decide (y < 0)) :
    Calls Tryz.prog 142 #[v1, v2] w (WhPN (x + y) w) := by
  obtain ⟨p, rfl, hp⟩ := h1
  obtain ⟨q, rfl, hq⟩ := h2
  have HP := Lib.hid hp
  have HQ := Lib.hid hq
  clear hp hq
  generalize hbx : decide (x < 0) = bx at *
  generalize hby : decide (y < 0) = by_ at *
  have HBX := Lib.hid (And.intro hbx (And.intro hby hxy))
  have hbb : (bx == by_) = true := by simp [hxy]
  clear hbx hby hxy
  go_enter Tryz.func142, Tryz.ntmps142
  go_wp2_with fail
  obtain ⟨W, hW, k0, k1, k2, f0, f1, f2, hbel, hsz⟩ := boxes3 w #[.bool bx, p] #[.bool by_, q] #[.bool false, .slice none 0 0] 136 136 136; rw [hW]; have c00 := k0 0; have c01 := k0 1; have c10 := k1 0; have c11 := k1 1; have c20 := k2 0; have c21 := k2 1; have f20 := f2 0; have f21 := f2 1; simp at c00 c01 c10 c11 c20 c21; have s20 : (W.cell? ⟨w.heap.size + 1 + 1, 0, none⟩).isSome = true := by rw [c20]; rfl
  have s21 : (W.cell? ⟨w.heap.size + 1 + 1, 1, none⟩).isSome = true := by rw [c21]; rfl
  clear k0 k1 k2 f0 f1 f2 c20 c21 hsz hW
  go_wp2_with fail
  go_region_held3 (fun w' => w'.cell? ⟨w.heap.size, 0, none⟩ = some (.bool bx) ∧ w'.cell? ⟨w.heap.size, 1, none⟩ = some p ∧ w'.cell? ⟨w.heap.size + 1, 0, none⟩ = some (.bool by_) ∧ w'.cell? ⟨w.heap.size + 1, 1, none⟩ = some q ∧ (w'.cell? ⟨w.heap.size + 1 + 1, 0, none⟩).isSome = true ∧ (w'.cell? ⟨w.heap.size + 1 + 1, 1, none⟩).isSome = true ∧ w'.frozen? ⟨w.heap.size + 1 + 1, 0, none⟩ = false ∧ w'.frozen? ⟨w.heap.size + 1 + 1, 1, none⟩ = false ∧ Bel w.heap.size w w')
    ((go_split_ands; refine ⟨?_, ?_, ?_, ?_, ?_, ?_, ?_, ?_, ?_⟩ <;> (first | assumption | exact keep_cell hbz (by assumption) | exact keep_some hbz (by assumption) | exact keep_free hbz (by assumption) (by assumption) | exact keep_free' hbz (by assumption) (by assumption) | exact Bel.call (by assumption) hbz | exact Bel.drew (by assumption) | ((repeat (first | assumption | (refine Bel.set ?_ _ (by first | (simp; done) | (simp; omega))) | refine Bel.drew ?_)); done) | exact some_set (by assumption) | exact some_set (some_set (by assumption)) | (refine set_far _ (by first | (simp; done) | (simp; omega)) (set_far _ (by first | (simp; done) | (simp; omega)) (by assumption))) | (refine set_far _ (by first | (simp; done) | (simp; omega)) (by assumption)) | (simp only [World.frozen?_setCell]; assumption) | (simp [*]; done))))
    (first
      | (go_at_call 190; refine (plus_c p q x.natAbs y.natAbs _ ?_ ?_ hm hn).mono ?_; (go_split_ands; exact HP.out.below (Bel.to (by assumption))); (go_split_ands; exact HQ.out.below (Bel.to (by assumption))); rintro e w' ⟨u, rfl, hu, hfu, hbz⟩; go_must (have HF := Lib.hid (hfu.mono (Nat.succ_le_of_lt (lt_of_some (a := ⟨w.heap.size + 1 + 1, 0, none⟩) (by go_split_ands; assumption)))); have HU := Lib.hid hu; clear hu hfu))
      | (go_at_call 189; obtain ⟨Az_, nz_, cz_, hform⟩ := HU.out.form; subst hform; refine (made_c _ _ (x.natAbs + y.natAbs) _ HU.out).mono ?_; rintro e w' ⟨rfl, hbz⟩; have HV := Lib.hid (HU.out.below hbz); clear HU)
      | (go_split_ands; obtain ⟨zu0, hzu0⟩ := Option.isSome_iff_exists.1 (show (World.cell? _ ⟨w.heap.size + 1 + 1, 0, none⟩).isSome = true by assumption); obtain ⟨zu1, hzu1⟩ := Option.isSome_iff_exists.1 (show (World.cell? _ ⟨w.heap.size + 1 + 1, 1, none⟩).isSome = true by assumption); go_simp))
  go_wp2
  go_split_ands
  refine bodyPost_ret (v := .agg #[.bool (bx && decide (0 < x.natAbs + y.natAbs)), .slice Az_ nz_ cz_]) (by simp [results, Tryz.results142, go_sem, hzu0, hzu1]) rfl ?_
  obtain ⟨h1, h2, h3⟩ := HBX.out
  refine whPN_mk ?_ ?_ (HF.out.mono (by omega)) (Bel.to (by assumption))
  · exact (add_sign_same h1 h2 h3).2
  · rw [← (add_sign_same h1 h2 h3).1]; exact Dg.set (Dg.set HV.out HF.out (by simp) _) HF.out (by simp) _

set_option maxHeartbeats 4000000 in
set_option maxRecDepth 100000 in
theorem add_diff (v1 v2 : Value) (x y : Int) (w : World) (h1 : Wh w v1 x) (h2 : Wh w v2 y) (hm : (dg 1000000000 x.natAbs).length ≤ 1000000) (hn : (dg 1000000000 y.natAbs).length ≤ 1000000) (hxy : ¬ decide (x < 0) = decide (y < 0)) :
    Calls Tryz.prog 142 #[v1, v2] w (WhPN (x + y) w) := by
  obtain ⟨p, rfl, hp⟩ := h1
  obtain ⟨q, rfl, hq⟩ := h2
  have HP := Lib.hid hp
  have HQ := Lib.hid hq
  clear hp hq
  generalize hbx : decide (x < 0) = bx at *
  generalize hby : decide (y < 0) = by_ at *
  have HBX := Lib.hid (And.intro hbx (And.intro hby hxy))
  have hbb : (bx == by_) = false := by simp [hxy]
  clear hbx hby hxy
  obtain ⟨s, hs⟩ : ∃ s, sgn ((x.natAbs : Int) - y.natAbs) = s := ⟨_, rfl⟩
  have HSG := Lib.hid hs
  by_cases hle : y.natAbs ≤ x.natAbs
  · have hs0 : 0 ≤ s := by
      rw [← hs]
      rcases Nat.eq_or_lt_of_le hle with h | h
      · rw [h, Int.sub_self]; decide
      · rw [sgn_gt (by omega)]; decide
    have HLE := Lib.hid hle
    clear hs hle
    go_enter Tryz.func142, Tryz.ntmps142
    go_wp2_with fail
    obtain ⟨W, hW, k0, k1, k2, f0, f1, f2, hbel, hsz⟩ := boxes3 w #[.bool bx, p] #[.bool by_, q] #[.bool false, .slice none 0 0] 136 136 136; rw [hW]; have c00 := k0 0; have c01 := k0 1; have c10 := k1 0; have c11 := k1 1; have c20 := k2 0; have c21 := k2 1; have f20 := f2 0; have f21 := f2 1; simp at c00 c01 c10 c11 c20 c21; have s20 : (W.cell? ⟨w.heap.size + 1 + 1, 0, none⟩).isSome = true := by rw [c20]; rfl
    have s21 : (W.cell? ⟨w.heap.size + 1 + 1, 1, none⟩).isSome = true := by rw [c21]; rfl
    clear k0 k1 k2 f0 f1 f2 hsz hW
    go_wp2_with (go_at_call 191; refine (compare_c p q x.natAbs y.natAbs _ (HP.out.below hbel.to) (HQ.out.below hbel.to)).mono ?_; rintro e W2 ⟨he, hbz⟩; rw [HSG.out] at he; subst he; have c00 := keep_cell hbz c00; have c01 := keep_cell hbz c01; have c10 := keep_cell hbz c10; have c11 := keep_cell hbz c11; have f20 := keep_free' hbz c20 f20; have f21 := keep_free' hbz c21 f21; have s20 := keep_some hbz s20; have s21 := keep_some hbz s21; have hbel := hbel.call hbz; clear c20 c21 hbz)
    go_region_held3 (fun w' => w'.cell? ⟨w.heap.size, 0, none⟩ = some (.bool bx) ∧ w'.cell? ⟨w.heap.size, 1, none⟩ = some p ∧ w'.cell? ⟨w.heap.size + 1, 0, none⟩ = some (.bool by_) ∧ w'.cell? ⟨w.heap.size + 1, 1, none⟩ = some q ∧ (w'.cell? ⟨w.heap.size + 1 + 1, 0, none⟩).isSome = true ∧ (w'.cell? ⟨w.heap.size + 1 + 1, 1, none⟩).isSome = true ∧ w'.frozen? ⟨w.heap.size + 1 + 1, 0, none⟩ = false ∧ w'.frozen? ⟨w.heap.size + 1 + 1, 1, none⟩ = false ∧ Bel w.heap.size w w')
      ((go_split_ands; refine ⟨?_, ?_, ?_, ?_, ?_, ?_, ?_, ?_, ?_⟩ <;> (first | assumption | exact keep_cell hbz (by assumption) | exact keep_some hbz (by assumption) | exact keep_free hbz (by assumption) (by assumption) | exact keep_free' hbz (by assumption) (by assumption) | exact Bel.call (by assumption) hbz | exact Bel.drew (by assumption) | ((repeat (first | assumption | (refine Bel.set ?_ _ (by first | (simp; done) | (simp; omega))) | refine Bel.drew ?_)); done) | exact some_set (by assumption) | exact some_set (some_set (by assumption)) | (refine set_far _ (by first | (simp; done) | (simp; omega)) (set_far _ (by first | (simp; done) | (simp; omega)) (by assumption))) | (refine set_far _ (by first | (simp; done) | (simp; omega)) (by assumption)) | (simp only [World.frozen?_setCell]; assumption) | (simp [*]; done))))
      (first
        | (go_at_call 192; refine (minus_c p q x.natAbs y.natAbs _ ?_ ?_ hm HLE.out).mono ?_; (go_split_ands; exact HP.out.below (Bel.to (by assumption))); (go_split_ands; exact HQ.out.below (Bel.to (by assumption))); rintro e w' ⟨u, rfl, hu, hfu, hbz⟩; go_must (have HF := Lib.hid (hfu.mono (Nat.succ_le_of_lt (lt_of_some (a := ⟨w.heap.size + 1 + 1, 0, none⟩) (by go_split_ands; assumption)))); have HU := Lib.hid hu; clear hu hfu))
        | (go_at_call 189; obtain ⟨Az_, nz_, cz_, hform⟩ := HU.out.form; subst hform; refine (made_c _ _ (x.natAbs - y.natAbs) _ HU.out).mono ?_; rintro e w' ⟨rfl, hbz⟩; have HV := Lib.hid (HU.out.below hbz); clear HU)
        | (go_split_ands; obtain ⟨zu0, hzu0⟩ := Option.isSome_iff_exists.1 (show (World.cell? _ ⟨w.heap.size + 1 + 1, 0, none⟩).isSome = true by assumption); obtain ⟨zu1, hzu1⟩ := Option.isSome_iff_exists.1 (show (World.cell? _ ⟨w.heap.size + 1 + 1, 1, none⟩).isSome = true by assumption); go_simp))
    go_wp2
    go_split_ands
    refine bodyPost_ret (v := .agg #[.bool (bx && decide (0 < x.natAbs - y.natAbs)), .slice Az_ nz_ cz_]) (by simp [results, Tryz.results142, go_sem, hzu0, hzu1]) rfl ?_
    obtain ⟨h1, h2, h3⟩ := HBX.out
    refine whPN_mk ?_ ?_ (HF.out.mono (by omega)) (Bel.to (by assumption))
    · exact (add_sign_ge h1 h2 h3 HLE.out).2
    · rw [← (add_sign_ge h1 h2 h3 HLE.out).1]; exact Dg.set (Dg.set HV.out HF.out (by simp) _) HF.out (by simp) _
  · have hs0 : ¬ 0 ≤ s := by rw [← hs, sgn_lt (by omega)]; decide
    have HLE := Lib.hid (Nat.le_of_lt (Nat.lt_of_not_le hle))
    have HNL := Lib.hid hle
    clear hs hle
    go_enter Tryz.func142, Tryz.ntmps142
    go_wp2_with fail
    obtain ⟨W, hW, k0, k1, k2, f0, f1, f2, hbel, hsz⟩ := boxes3 w #[.bool bx, p] #[.bool by_, q] #[.bool false, .slice none 0 0] 136 136 136; rw [hW]; have c00 := k0 0; have c01 := k0 1; have c10 := k1 0; have c11 := k1 1; have c20 := k2 0; have c21 := k2 1; have f20 := f2 0; have f21 := f2 1; simp at c00 c01 c10 c11 c20 c21; have s20 : (W.cell? ⟨w.heap.size + 1 + 1, 0, none⟩).isSome = true := by rw [c20]; rfl
    have s21 : (W.cell? ⟨w.heap.size + 1 + 1, 1, none⟩).isSome = true := by rw [c21]; rfl
    clear k0 k1 k2 f0 f1 f2 hsz hW
    go_wp2_with (go_at_call 191; refine (compare_c p q x.natAbs y.natAbs _ (HP.out.below hbel.to) (HQ.out.below hbel.to)).mono ?_; rintro e W2 ⟨he, hbz⟩; rw [HSG.out] at he; subst he; have c00 := keep_cell hbz c00; have c01 := keep_cell hbz c01; have c10 := keep_cell hbz c10; have c11 := keep_cell hbz c11; have f20 := keep_free' hbz c20 f20; have f21 := keep_free' hbz c21 f21; have s20 := keep_some hbz s20; have s21 := keep_some hbz s21; have hbel := hbel.call hbz; clear c20 c21 hbz)
    go_region_held3 (fun w' => w'.cell? ⟨w.heap.size, 0, none⟩ = some (.bool bx) ∧ w'.cell? ⟨w.heap.size, 1, none⟩ = some p ∧ w'.cell? ⟨w.heap.size + 1, 0, none⟩ = some (.bool by_) ∧ w'.cell? ⟨w.heap.size + 1, 1, none⟩ = some q ∧ (w'.cell? ⟨w.heap.size + 1 + 1, 0, none⟩).isSome = true ∧ (w'.cell? ⟨w.heap.size + 1 + 1, 1, none⟩).isSome = true ∧ w'.frozen? ⟨w.heap.size + 1 + 1, 0, none⟩ = false ∧ w'.frozen? ⟨w.heap.size + 1 + 1, 1, none⟩ = false ∧ Bel w.heap.size w w')
      ((go_split_ands; refine ⟨?_, ?_, ?_, ?_, ?_, ?_, ?_, ?_, ?_⟩ <;> (first | assumption | exact keep_cell hbz (by assumption) | exact keep_some hbz (by assumption) | exact keep_free hbz (by assumption) (by assumption) | exact keep_free' hbz (by assumption) (by assumption) | exact Bel.call (by assumption) hbz | exact Bel.drew (by assumption) | ((repeat (first | assumption | (refine Bel.set ?_ _ (by first | (simp; done) | (simp; omega))) | refine Bel.drew ?_)); done) | exact some_set (by assumption) | exact some_set (some_set (by assumption)) | (refine set_far _ (by first | (simp; done) | (simp; omega)) (set_far _ (by first | (simp; done) | (simp; omega)) (by assumption))) | (refine set_far _ (by first | (simp; done) | (simp; omega)) (by assumption)) | (simp only [World.frozen?_setCell]; assumption) | (simp [*]; done))))
      (first
        | (go_at_call 192; refine (minus_c q p y.natAbs x.natAbs _ ?_ ?_ hn HLE.out).mono ?_; (go_split_ands; exact HQ.out.below (Bel.to (by assumption))); (go_split_ands; exact HP.out.below (Bel.to (by assumption))); rintro e w' ⟨u, rfl, hu, hfu, hbz⟩; go_must (have HF := Lib.hid (hfu.mono (Nat.succ_le_of_lt (lt_of_some (a := ⟨w.heap.size + 1 + 1, 0, none⟩) (by go_split_ands; assumption)))); have HU := Lib.hid hu; clear hu hfu))
        | (go_at_call 189; obtain ⟨Az_, nz_, cz_, hform⟩ := HU.out.form; subst hform; refine (made_c _ _ (y.natAbs - x.natAbs) _ HU.out).mono ?_; rintro e w' ⟨rfl, hbz⟩; have HV := Lib.hid (HU.out.below hbz); clear HU)
        | (go_split_ands; obtain ⟨zu0, hzu0⟩ := Option.isSome_iff_exists.1 (show (World.cell? _ ⟨w.heap.size + 1 + 1, 0, none⟩).isSome = true by assumption); obtain ⟨zu1, hzu1⟩ := Option.isSome_iff_exists.1 (show (World.cell? _ ⟨w.heap.size + 1 + 1, 1, none⟩).isSome = true by assumption); go_simp))
    go_wp2
    go_split_ands
    refine bodyPost_ret (v := .agg #[.bool (by_ && decide (0 < y.natAbs - x.natAbs)), .slice Az_ nz_ cz_]) (by simp [results, Tryz.results142, go_sem, hzu0, hzu1]) rfl ?_
    obtain ⟨h1, h2, h3⟩ := HBX.out
    refine whPN_mk ?_ ?_ (HF.out.mono (by omega)) (Bel.to (by assumption))
    · exact (add_sign_lt h1 h2 h3 HNL.out).2
    · rw [← (add_sign_lt h1 h2 h3 HNL.out).1]; exact Dg.set (Dg.set HV.out HF.out (by simp) _) HF.out (by simp) _

theorem add_c (v1 v2 : Value) (x y : Int) (w : World) (h1 : Wh w v1 x) (h2 : Wh w v2 y) (hm : (dg 1000000000 x.natAbs).length ≤ 1000000) (hn : (dg 1000000000 y.natAbs).length ≤ 1000000) :
    Calls Tryz.prog 142 #[v1, v2] w (WhPN (x + y) w) := by
  by_cases h : decide (x < 0) = decide (y < 0)
  · exact add_same v1 v2 x y w h1 h2 hm hn h
  · exact add_diff v1 v2 x y w h1 h2 hm hn h

end Go.Proofs.YtekbfommnmikbaaGreatDoor

namespace Go.Proofs.YtekbfommnmikbaaGreatDoor
set_option linter.unusedVariables false
set_option linter.unusedSimpArgs false
open Go.RowKit
attribute [local go_sem] max2_int min2_int max_two min_two

theorem neg_sign (x : Int) : (!decide (x < 0) && decide (0 < x.natAbs)) = decide (-x < 0) := by
  rcases Int.lt_trichotomy x 0 with h | h | h
  · rw [decide_eq_true h, decide_eq_false (by omega : ¬ -x < 0)]; rfl
  · subst h; rfl
  · rw [decide_eq_false (by omega : ¬ x < 0), decide_eq_true (by omega : -x < 0), decide_eq_true (by omega : 0 < x.natAbs)]; rfl

set_option maxHeartbeats 2000000 in
theorem negN_c (k : Nat) (v1 : Value) (x : Int) (w : World) (h1 : WhN k w v1 x) : Calls Tryz.prog 143 #[v1] w fun e w' => ∃ v, e = .returned v ∧ WhN k w' v (-x) ∧ Below w.heap.size w w' := by
  obtain ⟨p, rfl, hp, hk⟩ := h1
  have HKB := Lib.hid hk
  clear hk
  have HP := Lib.hid hp
  obtain ⟨A, n, c, rfl⟩ := hp.form
  clear hp
  generalize hbx : decide (x < 0) = bx at *
  have HBX := Lib.hid hbx
  clear hbx
  go_enter Tryz.func143, Tryz.ntmps143
  go_wp2_with fail
  obtain ⟨W, hW, k0, k1, f0, f1, hbel, hsz⟩ := boxes2 w #[.bool bx, .slice A n c] #[.bool false, .slice none 0 0] 136 136
  rw [hW]
  have c00 := k0 0; have c01 := k0 1; have c10 := k1 0; have c11 := k1 1; have f10 := f1 0; have f11 := f1 1
  simp at c00 c01 c10 c11
  clear k0 k1 f0 f1 hW
  go_wp2_with (go_at_call 189; refine (made_c _ _ x.natAbs _ (HP.out.below hbel.to)).mono ?_; rintro e W2 ⟨rfl, hbz⟩; have d10 := keep_cell hbz c10; have d11 := keep_cell hbz c11; have g10 := keep_free' hbz c10 f10; have g11 := keep_free' hbz c11 f11; have HB := Lib.hid (hbel.call hbz); clear hbz)
  refine bodyPost_ret (v := .agg #[.bool (!bx && decide (0 < x.natAbs)), .slice A n c]) (by simp [results, Tryz.results143, go_sem, d10, d11]) rfl ?_
  have hB : ∀ b v, Below w.heap.size w ((W2.setCell ⟨w.heap.size + 1, 0, none⟩ b).setCell ⟨w.heap.size + 1, 1, none⟩ v) := fun b v => ((HB.out.set (a := ⟨w.heap.size + 1, 0, none⟩) b (by simp)).set (a := ⟨w.heap.size + 1, 1, none⟩) v (by simp)).to
  exact ⟨_, rfl, ⟨_, by rw [show (!bx && decide (0 < x.natAbs)) = decide (-x < 0) from by rw [← HBX.out]; exact neg_sign x], by rw [Int.natAbs_neg]; exact HP.out.below (hB _ _), HKB.out⟩, hB _ _⟩

theorem Wh.zero {w : World} {v : Value} {z : Int} (h : Wh w v z) : WhN 0 w v z := by
  obtain ⟨p, e, hp⟩ := h
  exact ⟨p, e, hp, fun _ _ => Nat.zero_le _⟩
theorem negative_c (v1 : Value) (x : Int) (w : World) (h1 : Wh w v1 x) : Calls Tryz.prog 143 #[v1] w (WhP (-x) w) := by
  refine (negN_c 0 v1 x w h1.zero).mono ?_
  rintro e w' ⟨v, rfl, h, hb⟩
  exact ⟨v, rfl, h.wh, hb⟩

set_option maxHeartbeats 2000000 in
theorem signum_c (v1 : Value) (x : Int) (w : World) (h1 : Wh w v1 x) (hl : (dg 1000000000 x.natAbs).length ≤ 1000000) : Calls Tryz.prog 144 #[v1] w fun e w' => e = .returned (.int .i64 (sgn x)) ∧ Below w.heap.size w w' := by
  obtain ⟨p, rfl, hp⟩ := h1
  have hz : (dg 1000000000 x.natAbs).length = 0 ↔ x = 0 := by rw [List.length_eq_zero_iff, dg_eq_nil (by decide)]; omega
  obtain ⟨A, c, rfl, hlc, hcm, hr⟩ := hp
  clear hr
  by_cases h : x < 0
  · have hd : decide (x < 0) = true := by simp [h]
    rw [hd]
    go_enter Tryz.func144, Tryz.ntmps144
    go_wp2_with fail
    go_ret
    exact ⟨by rw [sgn_lt h]; rfl, (by repeat (first | exact Below.refl _ _ | exact HB.out | (refine Below.alloc ?_ (by first | (simp; done) | (simp; omega)) _) | (refine Below.setCell ?_ (by first | (simp; done) | (simp; omega)) _) | refine Below.drew ?_ | refine below_drewN ?_ _))⟩
  · have hd : decide (x < 0) = false := by simp [h]
    rw [hd]
    have HZ := Lib.hid hz
    generalize (dg 1000000000 x.natAbs).length = L at *
    clear hz hd
    go_enter Tryz.func144, Tryz.ntmps144
    go_wp2_with (go_at_call 193; refine (sign_c _ _).mono ?_; rintro e w' ⟨rfl, rfl⟩)
    go_ret
    refine ⟨?_, (by repeat (first | exact Below.refl _ _ | exact HB.out | (refine Below.alloc ?_ (by first | (simp; done) | (simp; omega)) _) | (refine Below.setCell ?_ (by first | (simp; done) | (simp; omega)) _) | refine Below.drew ?_ | refine below_drewN ?_ _))⟩
    rcases Nat.eq_zero_or_pos L with h0 | h0
    · rw [HZ.out.1 h0, h0]; rfl
    · have : x ≠ 0 := fun e => by have := HZ.out.2 e; omega
      rw [sgn_gt (by omega), sgn_gt (by omega)]; rfl

/-- What a failure's panic carries. -/
def failChain (k : Int) : List PanicEntry := [{ v := .iface 198 (.agg #[.int .i64 k]), recovered := false }]

theorem nDigits_le {u k : Nat} (hk : 0 < k) : Lib.nDigits u ≤ k ↔ u < 10 ^ k := by
  constructor
  · intro h
    exact Nat.lt_of_lt_of_le (Lib.lt_pow_nDigits u) (Nat.pow_le_pow_right (by decide) h)
  · intro h
    rcases Nat.lt_or_ge k (Lib.nDigits u) with h' | h'
    · exfalso
      have key : ∀ k u, k < Lib.nDigits u → 0 < k → 10 ^ k ≤ u := by
        intro k
        induction k with
        | zero => intro u _ h; omega
        | succ k ih =>
          intro u h _
          by_cases hu : u < 10
          · rw [Lib.nDigits_small hu] at h; omega
          · rw [Lib.nDigits_big hu] at h
            rcases Nat.eq_zero_or_pos k with rfl | hk
            · simpa using (by omega : 10 ≤ u)
            · have := ih (u / 10) (by omega) hk
              rw [Nat.pow_succ]; omega
      have := key k u h' hk
      omega
    · exact h'

end Go.Proofs.YtekbfommnmikbaaGreatDoor
