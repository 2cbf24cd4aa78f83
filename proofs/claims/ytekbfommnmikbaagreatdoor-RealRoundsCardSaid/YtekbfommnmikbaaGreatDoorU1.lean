/- Texts of this claim, merged: M1. -/
import Derived.WalkKit
import Derived.WalkSpells
import Derived.WalkLawsBesides
import Derived.Lib.Hide
import Derived.Maps.AppendAt
import Derived.Deep.LoopGhost
import Derived.Deep.QuietTactic
import Derived.BigQuiet
import Derived.Deep.RegionHeld3
import Derived.Deep.AppendLies
import Derived.Deep.DeepMust
import Derived.Deep.DeepCutAuto
import Derived.Lib.SliceRun
import Derived.Deep.OwnRows
import Derived.RangeFuncNested
import Derived.RangeFuncBound
import Derived.RangeFuncCalls
import Derived.RangeFuncLeaves
import Derived.RangeFuncBox
import Derived.Shelf.Abstract
import Derived.Shelf.RegionOpen
import Derived.OwnWalkIn
import Derived.TacticsInMore
import Derived.LoopNIn
import Derived.LoopIn
import Derived.Sort.LoopGhostIn
import Derived.Sort.CutIn
import Derived.Stop.RegionWithIn
import Derived.Deep.DrawnRows
import Derived.Test.YtekbfommnmikbaaGreatDoorProg
/- Magnitudes: parts, their sums, products, quotients. -/
namespace Go.Proofs.YtekbfommnmikbaaGreatDoor
set_option linter.unusedVariables false
set_option linter.unusedSimpArgs false

/-- The value of digits, the least significant one first. -/
def val (b : Nat) : List Int → Int
  | [] => 0
  | d :: l => d + (b : Int) * val b l

/-- All are digits to the base. -/
def InR (b : Nat) (l : List Int) : Prop := ∀ d ∈ l, 0 ≤ d ∧ d < (b : Int)

theorem InR.nil (b : Nat) : InR b [] := fun _ h => by cases h
theorem InR.cons {b : Nat} {d : Int} {l : List Int} (h0 : 0 ≤ d) (h1 : d < (b : Int)) (h : InR b l) : InR b (d :: l) := by
  intro x hx
  rcases List.mem_cons.1 hx with rfl | hx
  · exact ⟨h0, h1⟩
  · exact h x hx
theorem InR.tail {b : Nat} {d : Int} {l : List Int} (h : InR b (d :: l)) : InR b l := fun x hx => h x (List.mem_cons_of_mem _ hx)
theorem InR.append {b : Nat} {l m : List Int} (h : InR b l) (k : InR b m) : InR b (l ++ m) := by
  intro x hx
  rcases List.mem_append.1 hx with hx | hx
  · exact h x hx
  · exact k x hx
theorem InR.snoc {b : Nat} {l : List Int} {d : Int} (h : InR b l) (h0 : 0 ≤ d) (h1 : d < (b : Int)) : InR b (l ++ [d]) := h.append (InR.cons h0 h1 (InR.nil b))
theorem InR.take {b : Nat} {l : List Int} (h : InR b l) (k : Nat) : InR b (l.take k) := fun x hx => h x (List.mem_of_mem_take hx)
theorem InR.drop {b : Nat} {l : List Int} (h : InR b l) (k : Nat) : InR b (l.drop k) := fun x hx => h x (List.mem_of_mem_drop hx)
theorem InR.set {b : Nat} {l : List Int} (h : InR b l) (i : Nat) {d : Int} (h0 : 0 ≤ d) (h1 : d < (b : Int)) : InR b (l.set i d) := by
  intro x hx
  rcases List.mem_or_eq_of_mem_set hx with hx | rfl
  · exact h x hx
  · exact ⟨h0, h1⟩
theorem InR.at_ {b : Nat} {l : List Int} (h : InR b l) (hb : 0 < b) (i : Nat) : 0 ≤ l.getD i 0 ∧ l.getD i 0 < (b : Int) := by
  by_cases hi : i < l.length
  · rw [List.getD_eq_getElem?_getD, List.getElem?_eq_getElem hi]
    exact h _ (List.getElem_mem hi)
  · rw [List.getD_eq_getElem?_getD, List.getElem?_eq_none (by omega)]
    simp; omega
theorem InR.replicate {b : Nat} (hb : 0 < b) (n : Nat) : InR b (List.replicate n 0) := by
  intro x hx
  obtain ⟨_, rfl⟩ := List.mem_replicate.1 hx
  exact ⟨Int.le_refl _, by omega⟩

theorem val_nil (b : Nat) : val b [] = 0 := rfl
theorem val_cons (b : Nat) (d : Int) (l : List Int) : val b (d :: l) = d + (b : Int) * val b l := rfl

theorem val_append (b : Nat) (l m : List Int) : val b (l ++ m) = val b l + (b : Int) ^ l.length * val b m := by
  induction l with
  | nil => simp [val]
  | cons d l ih =>
    simp only [List.cons_append, val_cons, ih, List.length_cons, Int.pow_succ]
    grind

theorem val_snoc (b : Nat) (l : List Int) (d : Int) : val b (l ++ [d]) = val b l + (b : Int) ^ l.length * d := by
  rw [val_append]; simp [val]

theorem val_replicate (b n : Nat) : val b (List.replicate n 0) = 0 := by
  induction n with
  | zero => rfl
  | succ n ih => rw [List.replicate_succ, val_cons, ih]; simp

theorem val_nonneg {b : Nat} {l : List Int} (h : InR b l) : 0 ≤ val b l := by
  induction l with
  | nil => exact Int.le_refl _
  | cons d l ih =>
    have h1 := h d (List.mem_cons_self ..)
    have h2 := ih h.tail
    have h3 : 0 ≤ (b : Int) * val b l := Int.mul_nonneg (by omega) h2
    rw [val_cons]; omega

theorem pow_pos' {b : Nat} (hb : 0 < b) (k : Nat) : 0 < (b : Int) ^ k := Int.pow_pos (by omega)

theorem pow_mono' {b i j : Nat} (hb : 0 < b) (h : i ≤ j) : (b : Int) ^ i ≤ (b : Int) ^ j := by exact_mod_cast Nat.pow_le_pow_right hb h

theorem val_lt {b : Nat} {l : List Int} (h : InR b l) : val b l < (b : Int) ^ l.length := by
  induction l with
  | nil => simp [val]
  | cons d l ih =>
    have h1 := h d (List.mem_cons_self ..)
    have h2 := ih h.tail
    have h3 : (b : Int) * (val b l + 1) ≤ (b : Int) * (b : Int) ^ l.length := Int.mul_le_mul_of_nonneg_left (by omega) (by omega)
    rw [val_cons, List.length_cons, Int.pow_succ, Int.mul_comm ((b : Int) ^ l.length)]
    rw [Int.mul_add] at h3
    omega

theorem val_take_succ (b : Nat) (l : List Int) (i : Nat) : val b (l.take (i + 1)) = val b (l.take i) + (b : Int) ^ i * l.getD i 0 := by
  by_cases hi : i < l.length
  · rw [List.take_succ_eq_append_getElem hi, val_snoc, List.length_take, Nat.min_eq_left (by omega), List.getD_eq_getElem?_getD, List.getElem?_eq_getElem hi]
    rfl
  · rw [List.take_of_length_le (by omega), List.take_of_length_le (by omega), List.getD_eq_getElem?_getD, List.getElem?_eq_none (by omega)]
    simp

theorem val_drop (b : Nat) (l : List Int) (i : Nat) (hi : i < l.length) : val b (l.drop i) = l.getD i 0 + (b : Int) * val b (l.drop (i + 1)) := by
  rw [List.drop_eq_getElem_cons hi, val_cons, List.getD_eq_getElem?_getD, List.getElem?_eq_getElem hi]
  rfl

theorem val_take_drop (b : Nat) (l : List Int) (i : Nat) (hi : i ≤ l.length) : val b l = val b (l.take i) + (b : Int) ^ i * val b (l.drop i) := by
  have h := val_append b (l.take i) (l.drop i)
  rw [List.take_append_drop, List.length_take, Nat.min_eq_left hi] at h
  exact h

theorem val_set (b : Nat) (l : List Int) (i : Nat) (x : Int) (hi : i < l.length) : val b (l.set i x) = val b l + (b : Int) ^ i * (x - l.getD i 0) := by
  induction l generalizing i with
  | nil => simp at hi
  | cons d l ih =>
    cases i with
    | zero => simp [val_cons]; omega
    | succ i =>
      have h := ih i (by simpa using hi)
      simp only [List.set_cons_succ, val_cons, h, List.getD_cons_succ, Int.pow_succ]
      grind

theorem getD_set (l : List Int) (i j : Nat) (x : Int) (hi : i < l.length) : (l.set i x).getD j 0 = if j = i then x else l.getD j 0 := by
  simp only [List.getD_eq_getElem?_getD, List.getElem?_set]
  by_cases h : i = j
  · subst h; simp [hi]
  · have h' : ¬ j = i := fun e => h e.symm
    simp [h, h']

/-- The canonical digits of a number, the least significant one first, without zeros at the end. -/
def dg (b n : Nat) : List Int := if h : n = 0 ∨ b < 2 then [] else ((n % b : Nat) : Int) :: dg b (n / b)
  termination_by n
  decreasing_by exact Nat.div_lt_self (by omega) (by omega)

theorem dg_zero (b : Nat) : dg b 0 = [] := by rw [dg]; simp
theorem dg_pos {b n : Nat} (hb : 2 ≤ b) (hn : 0 < n) : dg b n = ((n % b : Nat) : Int) :: dg b (n / b) := by
  rw [dg, dif_neg (by omega)]

theorem dg_inR {b : Nat} (hb : 2 ≤ b) (n : Nat) : InR b (dg b n) := by
  induction n using Nat.strongRecOn with
  | _ n ih =>
    by_cases hn : n = 0
    · subst hn; rw [dg_zero]; exact InR.nil b
    · rw [dg_pos hb (by omega)]
      have := Nat.mod_lt n (show 0 < b by omega)
      exact InR.cons (by omega) (by omega) (ih _ (Nat.div_lt_self (by omega) (by omega)))

theorem val_dg {b : Nat} (hb : 2 ≤ b) (n : Nat) : val b (dg b n) = (n : Int) := by
  induction n using Nat.strongRecOn with
  | _ n ih =>
    by_cases hn : n = 0
    · subst hn; rw [dg_zero]; rfl
    · rw [dg_pos hb (by omega), val_cons, ih _ (Nat.div_lt_self (by omega) (by omega))]
      have := Nat.mod_add_div n b
      have e : ((n % b : Nat) : Int) + (b : Int) * ((n / b : Nat) : Int) = ((n % b + b * (n / b) : Nat) : Int) := by simp
      rw [e, this]

/-- No zero stands at the end. -/
def NoTop : List Int → Prop := fun l => l = [] ∨ l.getLastD 0 ≠ 0

theorem dg_eq_nil {b n : Nat} (hb : 2 ≤ b) : dg b n = [] ↔ n = 0 := by
  constructor
  · intro h
    have := val_dg hb n
    rw [h] at this
    simp [val] at this; omega
  · rintro rfl; exact dg_zero b

theorem getLastD_cons_of_ne {d : Int} {l : List Int} (h : l ≠ []) : (d :: l).getLastD 0 = l.getLastD 0 := by
  cases l with
  | nil => exact absurd rfl h
  | cons a l => simp [List.getLastD, List.getLast]

theorem dg_noTop {b : Nat} (hb : 2 ≤ b) (n : Nat) : NoTop (dg b n) := by
  induction n using Nat.strongRecOn with
  | _ n ih =>
    by_cases hn : n = 0
    · subst hn; exact .inl (dg_zero b)
    · rw [dg_pos hb (by omega)]
      refine .inr ?_
      have hd := ih (n / b) (Nat.div_lt_self (by omega) (by omega))
      by_cases h0 : dg b (n / b) = []
      · rw [h0]
        have : n / b = 0 := (dg_eq_nil hb).1 h0
        have hlt : n < b := by
          rcases Nat.div_eq_zero_iff.1 this with h | h <;> omega
        rw [Nat.mod_eq_of_lt hlt]
        simp [List.getLastD]; omega
      · rw [getLastD_cons_of_ne h0]
        exact hd.resolve_left h0

/-- Canonical digits are told by their value. -/
theorem canon {b : Nat} (hb : 2 ≤ b) : ∀ (l : List Int), InR b l → NoTop l → l = dg b (val b l).toNat
  | [], _, _ => by simp [val, dg_zero]
  | d :: l, h, ht => by
    have h1 := h d (List.mem_cons_self ..)
    have h2 := val_nonneg h.tail
    have hl : NoTop l := by
      by_cases h0 : l = []
      · exact .inl h0
      · refine .inr ?_
        rcases ht with ht | ht
        · cases ht
        · rwa [getLastD_cons_of_ne h0] at ht
    have ih := canon hb l h.tail hl
    obtain ⟨d', rfl⟩ := Int.eq_ofNat_of_zero_le h1.1
    obtain ⟨m, hm⟩ := Int.eq_ofNat_of_zero_le h2
    rw [val_cons]
    rw [hm] at ih ⊢
    have e : ((d' : Int) + (b : Int) * (m : Int)).toNat = d' + b * m := by
      have : (d' : Int) + (b : Int) * (m : Int) = ((d' + b * m : Nat) : Int) := by simp
      rw [this, Int.toNat_natCast]
    have hd : d' < b := by omega
    have hpos : 0 < d' + b * m := by
      rcases Nat.eq_zero_or_pos m with h0 | h0
      · subst h0
        have hl0 : l = [] := by rw [ih]; simp [dg_zero]
        subst hl0
        rcases ht with ht | ht
        · cases ht
        · simp [List.getLastD] at ht; omega
      · have := Nat.mul_pos (show 0 < b by omega) h0
        omega
    rw [e, dg_pos hb hpos]
    have e1 : (d' + b * m) % b = d' := by rw [Nat.add_mul_mod_self_left, Nat.mod_eq_of_lt hd]
    have e2 : (d' + b * m) / b = m := by rw [Nat.add_mul_div_left _ _ (by omega), Nat.div_eq_of_lt hd]; omega
    rw [e1, e2, ih]
    simp

theorem canon_nat {b : Nat} (hb : 2 ≤ b) {l : List Int} {n : Nat} (h : InR b l) (ht : NoTop l) (hv : val b l = (n : Int)) : l = dg b n := by
  have := canon hb l h ht
  rw [hv, Int.toNat_natCast] at this
  exact this

theorem noTop_of_last {l : List Int} (k : Nat) (hk : l.length = k + 1) (h : l.getD k 0 ≠ 0) : NoTop l := by
  refine .inr ?_
  have hne : l ≠ [] := by intro e; rw [e] at hk; simp at hk
  rw [List.getLastD_eq_getLast?, List.getLast?_eq_getElem?, hk]
  simpa [List.getD_eq_getElem?_getD] using h

theorem last_of_noTop {l : List Int} (h : NoTop l) (k : Nat) (hk : l.length = k + 1) : l.getD k 0 ≠ 0 := by
  rcases h with h | h
  · rw [h] at hk; simp at hk
  · rw [List.getLastD_eq_getLast?, List.getLast?_eq_getElem?, hk] at h
    simpa [List.getD_eq_getElem?_getD] using h

/-- Where the rest are zeros the value is that of the beginning. -/
theorem val_take_zeros (b : Nat) (l : List Int) (k : Nat) (hk : k ≤ l.length) (h : ∀ j, k ≤ j → l.getD j 0 = 0) : val b (l.take k) = val b l := by
  have key : ∀ d, k + d ≤ l.length → val b (l.take (k + d)) = val b (l.take k) := by
    intro d
    induction d with
    | zero => intro _; rfl
    | succ d ih =>
      intro hd
      rw [← Nat.add_assoc, val_take_succ, h (k + d) (by omega), ih (by omega)]
      simp
  have := key (l.length - k) (by omega)
  rw [show k + (l.length - k) = l.length from by omega, List.take_length] at this
  exact this.symm

/-- What is left of digits when the zeros at the end have gone. -/
theorem trimmed {b : Nat} (hb : 2 ≤ b) {l : List Int} {n : Nat} (h : InR b l) (hv : val b l = (n : Int)) (k : Nat) (hk : k ≤ l.length) (hz : ∀ j, k ≤ j → l.getD j 0 = 0)
    (ht : k = 0 ∨ l.getD (k - 1) 0 ≠ 0) : l.take k = dg b n := by
  refine canon_nat hb (h.take k) ?_ (by rw [val_take_zeros b l k hk hz, hv])
  rcases ht with rfl | ht
  · exact .inl (by simp)
  · by_cases h0 : k = 0
    · subst h0; exact .inl (by simp)
    · refine noTop_of_last (k - 1) (by rw [List.length_take, Nat.min_eq_left hk]; omega) ?_
      rw [List.getD_eq_getElem?_getD, List.getElem?_take, if_pos (by omega), ← List.getD_eq_getElem?_getD]
      exact ht

theorem dg_length_le {b : Nat} (hb : 2 ≤ b) (n k : Nat) : (dg b n).length ≤ k ↔ n < b ^ k := by
  induction k generalizing n with
  | zero =>
    simp only [Nat.pow_zero, Nat.le_zero, List.length_eq_zero_iff]
    rw [dg_eq_nil hb]; omega
  | succ k ih =>
    by_cases hn : n = 0
    · subst hn
      have : 0 < b ^ (k + 1) := Nat.pow_pos (by omega)
      rw [dg_zero]; simp [this]
    · rw [dg_pos hb (by omega), List.length_cons, Nat.add_le_add_iff_right, ih, Nat.div_lt_iff_lt_mul (by omega), Nat.pow_succ]

theorem dg_length_lt {b : Nat} (hb : 2 ≤ b) (n k : Nat) : k < (dg b n).length ↔ b ^ k ≤ n := by
  have := dg_length_le hb n k
  omega

theorem dg_length_mono {b : Nat} (hb : 2 ≤ b) {m n : Nat} (h : m ≤ n) : (dg b m).length ≤ (dg b n).length := by
  have h1 := (dg_length_le hb n (dg b n).length).1 (Nat.le_refl _)
  exact (dg_length_le hb m _).2 (by omega)

theorem dg_single {b d : Nat} (hb : 2 ≤ b) (h0 : 0 < d) (h1 : d < b) : dg b d = [(d : Int)] := by
  rw [dg_pos hb h0, Nat.mod_eq_of_lt h1, Nat.div_eq_of_lt h1, dg_zero]

theorem dg_inj {b m n : Nat} (hb : 2 ≤ b) (h : dg b m = dg b n) : m = n := by
  have h1 := val_dg hb m
  have h2 := val_dg hb n
  rw [h] at h1
  omega

/-- Comparing from the top: as far as i the digits above are equal. -/
theorem val_lt_of_top {b : Nat} {l m : List Int} (hl : InR b l) (hm : InR b m) (hlen : l.length = m.length) (i : Nat) (hi : i < l.length)
    (heq : l.drop (i + 1) = m.drop (i + 1)) (hlt : l.getD i 0 < m.getD i 0) : val b l < val b m := by
  rw [val_take_drop b l i (by omega), val_take_drop b m i (by omega), val_drop b l i hi, val_drop b m i (by omega), heq]
  have h1 := val_lt (hl.take i)
  have h2 := val_nonneg (hm.take i)
  rw [List.length_take, Nat.min_eq_left (by omega)] at h1
  have h3 : (b : Int) ^ i * (l.getD i 0 + 1) ≤ (b : Int) ^ i * m.getD i 0 := Int.mul_le_mul_of_nonneg_left (by omega) (by have : 0 ≤ (b : Int) ^ i := Int.pow_nonneg (by omega); exact this)
  have e1 : (b : Int) ^ i * (l.getD i 0 + (b : Int) * val b (m.drop (i + 1))) = (b : Int) ^ i * l.getD i 0 + (b : Int) ^ i * ((b : Int) * val b (m.drop (i + 1))) := Int.mul_add ..
  have e2 : (b : Int) ^ i * (m.getD i 0 + (b : Int) * val b (m.drop (i + 1))) = (b : Int) ^ i * m.getD i 0 + (b : Int) ^ i * ((b : Int) * val b (m.drop (i + 1))) := Int.mul_add ..
  have e3 : (b : Int) ^ i * (l.getD i 0 + 1) = (b : Int) ^ i * l.getD i 0 + (b : Int) ^ i := by rw [Int.mul_add, Int.mul_one]
  rw [e1, e2]
  omega

end Go.Proofs.YtekbfommnmikbaaGreatDoor

namespace Go.Proofs.YtekbfommnmikbaaGreatDoor
set_option linter.unusedVariables false
set_option linter.unusedSimpArgs false

/-- There is a root. -/
theorem root_ex (n : Nat) : ∃ r, r * r ≤ n ∧ n < (r + 1) * (r + 1) := by
  induction n with
  | zero => exact ⟨0, by omega, by omega⟩
  | succ n ih =>
    obtain ⟨r, h1, h2⟩ := ih
    rcases Nat.lt_or_ge (n + 1) ((r + 1) * (r + 1)) with h | h
    · exact ⟨r, by omega, h⟩
    · refine ⟨r + 1, h, ?_⟩
      have : (r + 1 + 1) * (r + 1 + 1) = (r + 1) * (r + 1) + 2 * (r + 1) + 1 := by grind
      omega
/-- The square root, rounded down. -/
noncomputable def root (n : Nat) : Nat := (root_ex n).choose
/-- One step of Euclid's way, with the first number's factor. -/
structure Eu (a0 b0 a b : Nat) (one zero : Int) : Prop where
  gcd : Nat.gcd a b = Nat.gcd a0 b0
  fa : ∃ s, one * (a0 : Int) + s * (b0 : Int) = (a : Int)
  fb : ∃ t, zero * (a0 : Int) + t * (b0 : Int) = (b : Int)
  size : zero.natAbs * a + one.natAbs * b ≤ b0
  one_ : one.natAbs ≤ b0 + 1
  az : a ≤ a0 + b0
  bz : b ≤ a0 + b0

theorem Eu.start (a b : Nat) : Eu a b a b 1 0 := ⟨rfl, ⟨0, by simp⟩, ⟨1, by simp⟩, by simp, by simp, by omega, by omega⟩
theorem Eu.zero_le {a0 b0 a b : Nat} {one zero : Int} (h : Eu a0 b0 a b one zero) (ha : 0 < a) : zero.natAbs ≤ b0 := by
  have h1 := h.size
  have h2 : zero.natAbs * 1 ≤ zero.natAbs * a := Nat.mul_le_mul_left _ ha
  omega
theorem Eu.next_le {a0 b0 a b : Nat} {one zero : Int} (h : Eu a0 b0 a b one zero) (hb : 0 < b) : (one + -(zero * ((a / b : Nat) : Int))).natAbs * b + zero.natAbs * (a % b) ≤ b0 := by
  have h1 : (one + -(zero * ((a / b : Nat) : Int))).natAbs ≤ one.natAbs + zero.natAbs * (a / b) := by
    refine Nat.le_trans (Int.natAbs_add_le _ _) ?_
    rw [Int.natAbs_neg, Int.natAbs_mul, Int.natAbs_natCast]; exact Nat.le_refl _
  have h2 : (one + -(zero * ((a / b : Nat) : Int))).natAbs * b ≤ (one.natAbs + zero.natAbs * (a / b)) * b := Nat.mul_le_mul_right _ h1
  have h3 := h.size
  have h4 := Nat.div_add_mod a b
  have h5 : (one.natAbs + zero.natAbs * (a / b)) * b + zero.natAbs * (a % b) = zero.natAbs * (b * (a / b) + a % b) + one.natAbs * b := by
    rw [Nat.add_mul, Nat.mul_add, Nat.mul_assoc, Nat.mul_comm (a / b) b]; omega
  rw [h4] at h5
  omega
theorem Eu.step {a0 b0 a b : Nat} {one zero : Int} (h : Eu a0 b0 a b one zero) (hb : 0 < b) (hz : zero.natAbs ≤ b0 + 1) : Eu a0 b0 b (a % b) zero (one + -(zero * ((a / b : Nat) : Int))) := by
  obtain ⟨s, hs⟩ := h.fa
  obtain ⟨t, ht⟩ := h.fb
  refine ⟨?_, ⟨t, ht⟩, ⟨s + -(t * ((a / b : Nat) : Int)), ?_⟩, ?_, hz, h.bz, Nat.le_trans (Nat.mod_le _ _) h.az⟩
  · rw [← h.gcd, Nat.gcd_comm b, ← Nat.gcd_rec b a, Nat.gcd_comm]
  · have h4 : ((a : Nat) : Int) = (b : Int) * ((a / b : Nat) : Int) + ((a % b : Nat) : Int) := by exact_mod_cast (Nat.div_add_mod a b).symm
    have : ((a % b : Nat) : Int) = (a : Int) - (b : Int) * ((a / b : Nat) : Int) := by omega
    rw [this, ← hs, ← ht]; grind
  · exact h.next_le hb

end Go.Proofs.YtekbfommnmikbaaGreatDoor

namespace Go.Proofs.YtekbfommnmikbaaGreatDoor
set_option linter.unusedVariables false
set_option linter.unusedSimpArgs false
open Go.RowKit

/-- The numbers xs lie from A on. -/
def Row (k : IntKind) (w : World) (A : Option Addr) (xs : List Int) : Prop :=
  ∀ j, j < xs.length → ∃ a, A = some a ∧ w.cell? (a.add j) = some (.int k (xs[j]?.getD 0))

/-- v is a slice of the numbers xs. -/
def Sl (k : IntKind) (w : World) (v : Value) (xs : List Int) : Prop := ∃ A c, v = .slice A xs.length c ∧ xs.length ≤ c ∧ c ≤ 9223372036854775807 ∧ Row k w A xs

/-- v lies from block B on (or nowhere). -/
def FromB (B : Nat) (v : Value) : Prop := ∀ k, v.ownBlock = some k → B ≤ k

/-- v is a slice of the digits of n to the base b. -/
def Dg (b : Nat) (w : World) (v : Value) (n : Nat) : Prop := Sl .i64 w v (dg b n)

theorem Row.at_ {k : IntKind} {w : World} {A : Option Addr} {xs : List Int} (h : Row k w A xs) (j : Nat) (hj : j < xs.length) :
    ∃ a, A = some a ∧ w.cell? (a.add j) = some (.int k (xs[j]?.getD 0)) := h j hj

theorem Row.nil {k : IntKind} {w : World} {A : Option Addr} : Row k w A [] := fun _ h => by simp at h

/-- What lay in a world lies in each later one that has left it. -/
theorem Row.below {k : IntKind} {w w' : World} {A : Option Addr} {xs : List Int} (h : Row k w A xs) (hb : Below w.heap.size w w') : Row k w' A xs := by
  intro j hj
  obtain ⟨a, e, hc⟩ := h j hj
  exact ⟨a, e, (hb.cell (World.block_lt_of_cell? w _ hc)).trans hc⟩
theorem Sl.below {k : IntKind} {w w' : World} {v : Value} {xs : List Int} (h : Sl k w v xs) (hb : Below w.heap.size w w') : Sl k w' v xs := by
  obtain ⟨A, c, e, hc, hm, hr⟩ := h
  exact ⟨A, c, e, hc, hm, hr.below hb⟩
theorem Dg.below {b : Nat} {w w' : World} {v : Value} {n : Nat} (h : Dg b w v n) (hb : Below w.heap.size w w') : Dg b w' v n := Sl.below h hb

theorem add_block (a : Addr) (j : Nat) : (a.add j).block = a.block := by unfold Addr.add; split <;> rfl
theorem add_lit (g off j : Nat) : (⟨g, off, none⟩ : Addr).add j = ⟨g, off + j, none⟩ := by unfold Addr.add; split <;> simp_all

/-- A store elsewhere, or whatever keeps the block. -/
theorem Row.same {k : IntKind} {w w' : World} {A : Option Addr} {xs : List Int} (h : Row k w A xs) (hs : ∀ a, A = some a → w'.heap[a.block]? = w.heap[a.block]?) : Row k w' A xs := by
  intro j hj
  obtain ⟨a, e, hc⟩ := h j hj
  refine ⟨a, e, ?_⟩
  rw [World.cell?_of_block (w := w) (by rw [add_block]; exact hs a e)]
  exact hc
theorem Sl.same {k : IntKind} {w w' : World} {v : Value} {xs : List Int} (h : Sl k w v xs) (hs : ∀ g, v.ownBlock = some g → w'.heap[g]? = w.heap[g]?) : Sl k w' v xs := by
  obtain ⟨A, c, rfl, hc, hm, hr⟩ := h
  exact ⟨A, c, rfl, hc, hm, hr.same fun a e => hs _ (by subst e; rfl)⟩
theorem Dg.same {b : Nat} {w w' : World} {v : Value} {n : Nat} (h : Dg b w v n) (hs : ∀ g, v.ownBlock = some g → w'.heap[g]? = w.heap[g]?) : Dg b w' v n := Sl.same h hs

theorem Sl.alloc {k : IntKind} {w : World} {v : Value} {xs : List Int} (h : Sl k w v xs) (o : Obj) : Sl k (w.alloc o) v xs := h.below ((Below.refl _ _).alloc (Nat.le_refl _) _)
theorem Sl.drew {k : IntKind} {w : World} {v : Value} {xs : List Int} (h : Sl k w v xs) : Sl k w.drew v xs := h.below (Below.refl _ _).drew
theorem Row.alloc {k : IntKind} {w : World} {v : Option Addr} {xs : List Int} (h : Row k w v xs) (o : Obj) : Row k (w.alloc o) v xs := h.below ((Below.refl _ _).alloc (Nat.le_refl _) _)
theorem Row.drew {k : IntKind} {w : World} {v : Option Addr} {xs : List Int} (h : Row k w v xs) : Row k w.drew v xs := h.below (Below.refl _ _).drew

theorem below_then' {w w1 w2 : World} (h : Below w.heap.size w w1) (k : Below w1.heap.size w1 w2) : Below w.heap.size w w2 := h.trans (k.mono h.size)
theorem below_drewN {B : Nat} {a w : World} (h : Below B a w) (n : Nat) : Below B a (w.drewN n) := ⟨h.os, h.tape, h.output, h.size, h.block⟩

/-- What the call itself has made reads as a slice. -/
theorem own_row {w : World} {base n : Nat} {e : TypeId} {k : IntKind} {v : Value} {xs : List Int} (h : w.ownsRow base e 1 v n (xs.map (Value.int k))) :
    ∃ A c, v = .slice A xs.length c ∧ xs.length ≤ c ∧ c ≤ maxLen ∧ Row k w A xs ∧ xs.length = n := by
  have hl : xs.length = n := by have := h.1; simpa using this
  rcases h.2 with ⟨rfl, h0⟩ | ⟨g, cap, cur, rfl, hb, hh, hn, hm, hs, ht⟩
  · obtain rfl : xs = [] := List.eq_nil_of_length_eq_zero (by omega)
    exact ⟨none, 0, rfl, Nat.le_refl _, Nat.zero_le _, Row.nil, by simpa using hl⟩
  · refine ⟨some ⟨g, 0, none⟩, cap, by rw [hl], by omega, hm, ?_, hl⟩
    intro j hj
    refine ⟨_, rfl, h.cells (g := g) rfl j _ ?_⟩
    rw [List.getElem?_map, List.getElem?_eq_getElem hj]
    rfl
theorem own_from {w : World} {base n : Nat} {e : TypeId} {size : Nat} {v : Value} {xs : List Value} (h : w.ownsRow base e size v n xs) : FromB base v := fun k hk => (h.lt k hk).1

theorem FromB.mono {B B' : Nat} {v : Value} (h : FromB B v) (hB : B' ≤ B) : FromB B' v := fun k hk => Nat.le_trans hB (h k hk)

theorem own_drewN {w : World} {base n : Nat} {e : TypeId} {size : Nat} {v : Value} {xs : List Value} (h : w.ownsRow base e size v n xs) (m : Nat) : (w.drewN m).ownsRow base e size v n xs := h

theorem new_cell (w : World) (cs : Array Value) (t : TypeId) (i : Nat) : (w.alloc (.cells cs t)).cell? ⟨w.heap.size, i, none⟩ = cs[i]? := by
  unfold World.cell?
  rw [heap_alloc_new]
  rfl
theorem new_free (w : World) (cs : Array Value) (t : TypeId) (i : Nat) : (w.alloc (.cells cs t)).frozen? ⟨w.heap.size, i, none⟩ = false := by
  unfold World.frozen?
  rw [heap_alloc_new]
  simp

theorem set_same {w : World} {a : Addr} {u : Value} (v : Value) (h : w.cell? a = some u) : (w.setCell a v).cell? a = some v := World.cell?_setCell_same (h := h) ..
theorem set_far {w : World} {a b : Addr} {u : Value} (v : Value) (hne : a.block ≠ b.block) (h : w.cell? b = some u) : (w.setCell a v).cell? b = some u := (World.cell?_setCell_far w a b v hne).trans h
theorem set_other {w : World} {a b : Addr} {u : Value} (v : Value) (hne : a ≠ b) (h : w.cell? b = some u) : (w.setCell a v).cell? b = some u := (World.cell?_setCell_other (h := hne) ..).trans h

theorem some_set {w : World} {a b : Addr} {v : Value} (h : (w.cell? b).isSome = true) : ((w.setCell a v).cell? b).isSome = true := by
  obtain ⟨u, hu⟩ := Option.isSome_iff_exists.1 h
  by_cases e : a = b
  · subst e; rw [set_same v hu]; rfl
  · rw [set_other v e hu]; rfl
theorem lt_of_some {w : World} {a : Addr} (h : (w.cell? a).isSome = true) : a.block < w.heap.size := by
  obtain ⟨u, hu⟩ := Option.isSome_iff_exists.1 h
  exact World.block_lt_of_cell? w a hu
theorem Dg.set {b : Nat} {w : World} {v : Value} {n k : Nat} {a : Addr} (h : Dg b w v n) (hf : FromB k v) (hk : a.block < k) (x : Value) : Dg b (w.setCell a x) v n :=
  h.same fun g hg => Below.heap_setCell _ _ _ _ (by have := hf g hg; omega)
theorem Sl.set {kd : IntKind} {w : World} {v : Value} {xs : List Int} {k : Nat} {a : Addr} (h : Sl kd w v xs) (hf : FromB k v) (hk : a.block < k) (x : Value) : Sl kd (w.setCell a x) v xs :=
  h.same fun g hg => Below.heap_setCell _ _ _ _ (by have := hf g hg; omega)

/-- What a call that only makes memory of its own keeps. -/
theorem keep_cell {w w' : World} {a : Addr} {v : Value} (hb : Below w.heap.size w w') (h : w.cell? a = some v) : w'.cell? a = some v := (hb.cell (World.block_lt_of_cell? w a h)).trans h
theorem keep_some {w w' : World} {a : Addr} (hb : Below w.heap.size w w') (h : (w.cell? a).isSome = true) : (w'.cell? a).isSome = true := by rw [hb.cell (lt_of_some h)]; exact h
theorem keep_free {w w' : World} {a : Addr} (hb : Below w.heap.size w w') (hs : (w.cell? a).isSome = true) (h : w.frozen? a = false) : w'.frozen? a = false := by rw [hb.frozen (lt_of_some hs)]; exact h
theorem keep_free' {w w' : World} {a : Addr} {v : Value} (hb : Below w.heap.size w w') (hs : w.cell? a = some v) (h : w.frozen? a = false) : w'.frozen? a = false := by rw [hb.frozen (World.block_lt_of_cell? w a hs)]; exact h
/-- Below B (some block of before), kept by such a call. -/
structure Bel (B : Nat) (w w' : World) : Prop where
  to_ : Below B w w'
  size_ : B ≤ w.heap.size
theorem Bel.call {B : Nat} {w w1 w2 : World} (h : Bel B w w1) (hb : Below w1.heap.size w1 w2) : Bel B w w2 := ⟨h.to_.trans (hb.mono (Nat.le_trans h.size_ h.to_.size)), h.size_⟩
theorem Bel.to {w w1 : World} (h : Bel w.heap.size w w1) : Below w.heap.size w w1 := h.to_
theorem Bel.refl (B : Nat) (w : World) (h : B ≤ w.heap.size) : Bel B w w := ⟨Below.refl _ _, h⟩
theorem Bel.drew {B : Nat} {w w1 : World} (h : Bel B w w1) : Bel B w w1.drew := ⟨h.to_.drew, h.size_⟩
theorem Bel.alloc {B : Nat} {w w1 : World} (h : Bel B w w1) (o : Obj) : Bel B w (w1.alloc o) := ⟨h.to_.alloc (Nat.le_trans h.size_ h.to_.size) o, h.size_⟩
theorem Bel.set {B : Nat} {w w1 : World} (h : Bel B w w1) {a : Addr} (v : Value) (ha : B ≤ a.block) : Bel B w (w1.setCell a v) := ⟨h.to_.setCell ha v, h.size_⟩

theorem cell_of_heap {w : World} {b : Nat} {c : Array Value} {t : TypeId} {f : Nat × Nat} (h : w.heap[b]? = some (.cells c t f)) (i : Nat) : w.cell? ⟨b, i, none⟩ = c[i]? := by unfold World.cell?; rw [h]; rfl
theorem free_of_heap {w : World} {b : Nat} {c : Array Value} {t : TypeId} (h : w.heap[b]? = some (.cells c t (0, 0))) (i : Nat) : w.frozen? ⟨b, i, none⟩ = false := by unfold World.frozen?; rw [h]; simp
theorem heap_old {w : World} {b : Nat} {x : Obj} (o : Obj) (h : w.heap[b]? = some x) : (w.alloc o).heap[b]? = some x := by
  rw [Below.heap_alloc w o b (Array.getElem?_eq_some_iff.1 h).1]; exact h
theorem heap_new' (w : World) (o : Obj) (b : Nat) (hb : b = w.heap.size) : (w.alloc o).heap[b]? = some o := by subst hb; exact heap_alloc_new w o
theorem boxes1 (w : World) (a0 : Array Value) (t0 : TypeId) : ∃ W, w.alloc (.cells a0 t0) = W ∧ (∀ i, W.cell? ⟨w.heap.size, i, none⟩ = a0[i]?) ∧ (∀ i, W.frozen? ⟨w.heap.size, i, none⟩ = false) ∧ Bel w.heap.size w W ∧ W.heap.size = w.heap.size + 1 := by
  refine ⟨_, rfl, fun i => cell_of_heap (heap_alloc_new _ _) i, fun i => free_of_heap (heap_alloc_new _ _) i, ?_, by simp⟩
  exact (Bel.refl _ _ (Nat.le_refl _)).alloc _
theorem boxes2 (w : World) (a0 a1 : Array Value) (t0 t1 : TypeId) : ∃ W, (w.alloc (.cells a0 t0)).alloc (.cells a1 t1) = W ∧ (∀ i, W.cell? ⟨w.heap.size, i, none⟩ = a0[i]?) ∧ (∀ i, W.cell? ⟨w.heap.size + 1, i, none⟩ = a1[i]?) ∧ (∀ i, W.frozen? ⟨w.heap.size, i, none⟩ = false) ∧ (∀ i, W.frozen? ⟨w.heap.size + 1, i, none⟩ = false) ∧ Bel w.heap.size w W ∧ W.heap.size = w.heap.size + 1 + 1 := by
  refine ⟨_, rfl, fun i => cell_of_heap (heap_old _ (heap_alloc_new _ _)) i, fun i => cell_of_heap (heap_new' _ _ _ (by simp)) i, fun i => free_of_heap (heap_old _ (heap_alloc_new _ _)) i, fun i => free_of_heap (heap_new' _ _ _ (by simp)) i, ?_, by simp⟩
  exact ((Bel.refl _ _ (Nat.le_refl _)).alloc _).alloc _
theorem boxes3 (w : World) (a0 a1 a2 : Array Value) (t0 t1 t2 : TypeId) : ∃ W, ((w.alloc (.cells a0 t0)).alloc (.cells a1 t1)).alloc (.cells a2 t2) = W ∧ (∀ i, W.cell? ⟨w.heap.size, i, none⟩ = a0[i]?) ∧ (∀ i, W.cell? ⟨w.heap.size + 1, i, none⟩ = a1[i]?) ∧ (∀ i, W.cell? ⟨w.heap.size + 1 + 1, i, none⟩ = a2[i]?) ∧ (∀ i, W.frozen? ⟨w.heap.size, i, none⟩ = false) ∧ (∀ i, W.frozen? ⟨w.heap.size + 1, i, none⟩ = false) ∧ (∀ i, W.frozen? ⟨w.heap.size + 1 + 1, i, none⟩ = false) ∧ Bel w.heap.size w W ∧ W.heap.size = w.heap.size + 1 + 1 + 1 := by
  refine ⟨_, rfl, fun i => cell_of_heap (heap_old _ (heap_old _ (heap_alloc_new _ _))) i, fun i => cell_of_heap (heap_old _ (heap_new' _ _ _ (by simp))) i, fun i => cell_of_heap (heap_new' _ _ _ (by simp)) i, fun i => free_of_heap (heap_old _ (heap_old _ (heap_alloc_new _ _))) i, fun i => free_of_heap (heap_old _ (heap_new' _ _ _ (by simp))) i, fun i => free_of_heap (heap_new' _ _ _ (by simp)) i, ?_, by simp⟩
  exact (((Bel.refl _ _ (Nat.le_refl _)).alloc _).alloc _).alloc _
theorem boxes5 (w : World) (a0 a1 a2 a3 a4 : Array Value) (t0 t1 t2 t3 t4 : TypeId) : ∃ W, ((((w.alloc (.cells a0 t0)).alloc (.cells a1 t1)).alloc (.cells a2 t2)).alloc (.cells a3 t3)).alloc (.cells a4 t4) = W ∧ (∀ i, W.cell? ⟨w.heap.size, i, none⟩ = a0[i]?) ∧ (∀ i, W.cell? ⟨w.heap.size + 1, i, none⟩ = a1[i]?) ∧ (∀ i, W.cell? ⟨w.heap.size + 1 + 1, i, none⟩ = a2[i]?) ∧ (∀ i, W.cell? ⟨w.heap.size + 1 + 1 + 1, i, none⟩ = a3[i]?) ∧ (∀ i, W.cell? ⟨w.heap.size + 1 + 1 + 1 + 1, i, none⟩ = a4[i]?) ∧ (∀ i, W.frozen? ⟨w.heap.size, i, none⟩ = false) ∧ (∀ i, W.frozen? ⟨w.heap.size + 1, i, none⟩ = false) ∧ (∀ i, W.frozen? ⟨w.heap.size + 1 + 1, i, none⟩ = false) ∧ (∀ i, W.frozen? ⟨w.heap.size + 1 + 1 + 1, i, none⟩ = false) ∧ (∀ i, W.frozen? ⟨w.heap.size + 1 + 1 + 1 + 1, i, none⟩ = false) ∧ Bel w.heap.size w W ∧ W.heap.size = w.heap.size + 1 + 1 + 1 + 1 + 1 := by
  refine ⟨_, rfl, fun i => cell_of_heap (heap_old _ (heap_old _ (heap_old _ (heap_old _ (heap_alloc_new _ _))))) i, fun i => cell_of_heap (heap_old _ (heap_old _ (heap_old _ (heap_new' _ _ _ (by simp))))) i, fun i => cell_of_heap (heap_old _ (heap_old _ (heap_new' _ _ _ (by simp)))) i, fun i => cell_of_heap (heap_old _ (heap_new' _ _ _ (by simp))) i, fun i => cell_of_heap (heap_new' _ _ _ (by simp)) i, fun i => free_of_heap (heap_old _ (heap_old _ (heap_old _ (heap_old _ (heap_alloc_new _ _))))) i, fun i => free_of_heap (heap_old _ (heap_old _ (heap_old _ (heap_new' _ _ _ (by simp))))) i, fun i => free_of_heap (heap_old _ (heap_old _ (heap_new' _ _ _ (by simp)))) i, fun i => free_of_heap (heap_old _ (heap_new' _ _ _ (by simp))) i, fun i => free_of_heap (heap_new' _ _ _ (by simp)) i, ?_, by simp⟩
  exact (((((Bel.refl _ _ (Nat.le_refl _)).alloc _).alloc _).alloc _).alloc _).alloc _

theorem max2_int (k k' : IntKind) (x y : Int) : Builtin.max2 (.int k x) (.int k' y) = pure (.int k (if x < y then y else x)) := by simp only [Builtin.max2, gt_iff_lt]
theorem min2_int (k k' : IntKind) (x y : Int) : Builtin.min2 (.int k x) (.int k' y) = pure (.int k (if y < x then y else x)) := by simp only [Builtin.min2]
theorem max_two (ats : Array TypeId) (ty : TypeId) (a b : Value) : Builtin.max_ ats ty #[a, b] = (Builtin.max2 a b >>= fun s => pure s) := by simp only [Builtin.max_, List.foldlM_cons, List.foldlM_nil]
theorem min_two (ats : Array TypeId) (ty : TypeId) (a b : Value) : Builtin.min_ ats ty #[a, b] = (Builtin.min2 a b >>= fun s => pure s) := by simp only [Builtin.min_, List.foldlM_cons, List.foldlM_nil]

end Go.Proofs.YtekbfommnmikbaaGreatDoor

namespace Go.Proofs.YtekbfommnmikbaaGreatDoor
set_option linter.unusedVariables false
set_option linter.unusedSimpArgs false
open Go.RowKit
attribute [local go_sem] max2_int min2_int max_two min_two

def sgn (n : Int) : Int := if n < 0 then -1 else if 0 < n then 1 else 0

set_option maxHeartbeats 400000 in
theorem sign_c (n : Int) (w : World) :
    Calls Tryz.prog 193 #[.int .i64 n] w fun e w' => e = .returned (.int .i64 (sgn n)) ∧ w = w' := by
  rcases Int.lt_trichotomy n 0 with h | h | h
  all_goals
    go_enter Tryz.func193, Tryz.ntmps193
    go_wp2
    go_ret
    exact ⟨by simp [sgn]; omega, rfl⟩

set_option maxHeartbeats 400000 in
theorem at_c (A : Option Addr) (c : Nat) (xs : List Int) (i : Nat) (w : World) (hr : Row .i64 w A xs) :
    Calls Tryz.prog 199 #[.slice A xs.length c, .int .i64 i] w fun e w' => e = .returned (.int .i64 (xs[i]?.getD 0)) ∧ w = w' := by
  by_cases h : i < xs.length
  · obtain ⟨a, rfl, hc⟩ := hr i h
    clear hr
    go_enter Tryz.func199, Tryz.ntmps199
    go_wp2
    go_ret
    exact ⟨by simp [h], rfl⟩
  · clear hr
    go_enter Tryz.func199, Tryz.ntmps199
    go_wp2
    go_ret
    exact ⟨by rw [List.getElem?_eq_none (by omega)]; rfl, rfl⟩

/-- What cut returns: the list up to its last number that is not 0, in place. -/
def CutP (A : Option Addr) (c : Nat) (xs : List Int) (w : World) (e : Ending) (w' : World) : Prop :=
  w = w' ∧ ∃ k, k ≤ xs.length ∧ e = .returned (.slice A k c) ∧ (∀ j, k ≤ j → xs[j]?.getD 0 = 0) ∧ (k = 0 ∨ xs[k - 1]?.getD 0 ≠ 0)

set_option maxHeartbeats 1000000 in
theorem cut_c (A : Option Addr) (c : Nat) (xs : List Int) (w : World) (hr : Row .i64 w A xs) (hc : xs.length ≤ c) (hm : c ≤ 9223372036854775807) :
    Calls Tryz.prog 222 #[.slice A xs.length c] w (CutP A c xs w) := by
  have HR := Lib.hid hr
  clear hr
  go_enter Tryz.func222, Tryz.ntmps222
  go_wp2
  go_loopg [0] xs.length (fun k p wr => p = .slice A k c ∧ k ≤ xs.length ∧ Hid (∀ j, k ≤ j → xs[j]?.getD 0 = 0) ∧ wr = w)
  case atStart => exact ⟨rfl, Nat.le_refl _, fun j hj => by rw [List.getElem?_eq_none hj]; rfl, rfl⟩
  case round =>
    obtain ⟨rfl, hk, HZ, rfl⟩ := hrel
    by_cases h0 : gk = 0
    · subst h0
      go_wp2
      go_ret
      exact ⟨rfl, 0, Nat.zero_le _, rfl, HZ.out, .inl rfl⟩
    · obtain ⟨k, rfl⟩ : ∃ k, gk = k + 1 := ⟨gk - 1, by omega⟩
      clear h0
      obtain ⟨a, rfl, hcell⟩ := HR.out k (by omega)
      by_cases hz : xs[k]?.getD 0 = 0
      · rw [hz] at hcell
        have HZ' : Hid (xs[k]?.getD 0 = 0) := hz
        clear hz
        go_wp2
        go_roundg k
        case measure => omega
        case rel =>
          refine ⟨rfl, by omega, fun j hj => ?_, rfl⟩
          by_cases e : j = k
          · subst e; exact HZ'.out
          · exact HZ.out j (by omega)
      · have HZ' : Hid (xs[k]?.getD 0 ≠ 0) := hz
        generalize hx : xs[k]?.getD 0 = x at hcell hz
        have hb : (x == 0) = false := by simpa using hz
        clear hx hz
        go_wp2
        go_ret
        exact ⟨rfl, k + 1, hk, rfl, HZ.out, .inr (by simpa using HZ'.out)⟩

theorem at_x (A : Option Addr) (c : Nat) (xs : List Int) (i : Nat) (x : Int) (w : World) (hr : Row .i64 w A xs) (hx : xs[i]?.getD 0 = x) :
    Calls Tryz.prog 199 #[.slice A xs.length c, .int .i64 i] w fun e w' => e = .returned (.int .i64 x) ∧ w = w' := by
  subst hx; exact at_c A c xs i w hr

/-- A call returns the digits of n to the base b, in memory of its own; what was there is as it was. -/
def DgP (b n : Nat) (w : World) (e : Ending) (w' : World) : Prop := ∃ v, e = .returned v ∧ Dg b w' v n ∧ FromB w.heap.size v ∧ Below w.heap.size w w'

theorem cut_dg {b : Nat} (hb : 2 ≤ b) {A : Option Addr} {c : Nat} {xs : List Int} {w : World} {n : Nat} {e : Ending} {w' : World} (hr : Row .i64 w A xs) (hc : xs.length ≤ c) (hm : c ≤ 9223372036854775807) (hi : InR b xs) (hv : val b xs = (n : Int))
    (h : CutP A c xs w e w') : w = w' ∧ ∃ v, e = .returned v ∧ Dg b w' v n ∧ (∀ g, v.ownBlock = some g → ∃ a, A = some a ∧ a.block = g) := by
  obtain ⟨rfl, k, hk, rfl, hz, ht⟩ := h
  refine ⟨rfl, _, rfl, ?_, ?_⟩
  · have e := trimmed hb hi hv k hk (fun j hj => by rw [List.getD_eq_getElem?_getD]; exact hz j hj) (by rw [List.getD_eq_getElem?_getD]; exact ht)
    have el : (dg b n).length = k := by rw [← e, List.length_take, Nat.min_eq_left hk]
    refine ⟨A, c, by rw [el], by omega, hm, fun j hj => ?_⟩
    obtain ⟨a, ea, hc⟩ := hr j (by omega)
    refine ⟨a, ea, ?_⟩
    rw [hc, ← e, List.getElem?_take, if_pos (by omega)]
  · intro g hg
    cases A with
    | none => simp [Value.ownBlock] at hg
    | some a => exact ⟨a, rfl, by simpa [Value.ownBlock] using hg⟩

theorem info_int : (Tryz.prog.info? 3).map (fun i => (i.zero, i.size, i.bytes)) = some (some (.int .i64 0), 1, 8) := by kernel_rfl

/-- One place of a sum. -/
theorem sum_step {b : Nat} (hb : 2 ≤ b) {p q l : List Int} {k : Nat} {c x y : Int} (hl : l.length = k) (hv : val b l + (b : Int) ^ k * c = val b (p.take k) + val b (q.take k)) (hx : p[k]?.getD 0 = x) (hy : q[k]?.getD 0 = y) :
    val b (l ++ [(x + y + c) % (b : Int)]) + (b : Int) ^ (k + 1) * ((x + y + c) / (b : Int)) = val b (p.take (k + 1)) + val b (q.take (k + 1)) := by
  rw [val_snoc, val_take_succ, val_take_succ, hl, List.getD_eq_getElem?_getD, List.getD_eq_getElem?_getD, hx, hy]
  have e := Int.emod_add_mul_ediv (x + y + c) b
  have e2 : (b : Int) ^ (k + 1) = (b : Int) ^ k * (b : Int) := Int.pow_succ _ _
  rw [e2]
  generalize (x + y + c) % (b : Int) = r at *
  generalize (x + y + c) / (b : Int) = d at *
  generalize (b : Int) ^ k = B at *
  have : B * (r + (b : Int) * d) = B * (x + y + c) := by rw [e]
  grind

/-- The end of a sum: nothing is carried on. -/
theorem sum_end {b : Nat} (hb : 2 ≤ b) {p q l : List Int} {k : Nat} {c : Int} {m n : Nat} (hp : InR b p) (hq : InR b q) (hpk : p.length < k) (hqk : q.length < k) (hl : l.length = k) (hi : InR b l)
    (hv : val b l + (b : Int) ^ k * c = val b (p.take k) + val b (q.take k)) (hc : 0 ≤ c) (hm : val b p = (m : Int)) (hn : val b q = (n : Int)) : val b l = ((m + n : Nat) : Int) := by
  rw [List.take_of_length_le (by omega), List.take_of_length_le (by omega), hm, hn] at hv
  have h1 := val_lt hp
  have h2 := val_lt hq
  have h0 := val_nonneg hi
  obtain ⟨j, rfl⟩ : ∃ j, k = j + 1 := ⟨k - 1, by omega⟩
  have g1 : (b : Int) ^ p.length ≤ (b : Int) ^ j := pow_mono' (by omega) (by omega)
  have g2 : (b : Int) ^ q.length ≤ (b : Int) ^ j := pow_mono' (by omega) (by omega)
  have g3 : (b : Int) ^ (j + 1) = (b : Int) ^ j * (b : Int) := Int.pow_succ _ _
  have g4 : 0 ≤ (b : Int) ^ j := Int.pow_nonneg (by omega)
  have g5 : (b : Int) ^ j * 2 ≤ (b : Int) ^ j * (b : Int) := Int.mul_le_mul_of_nonneg_left (by omega) g4
  have hc0 : c = 0 := by
    rcases Int.lt_or_le 0 c with h | h
    · exfalso
      have : (b : Int) ^ (j + 1) * 1 ≤ (b : Int) ^ (j + 1) * c := Int.mul_le_mul_of_nonneg_left (by omega) (by omega)
      omega
    · omega
  subst hc0
  simp at hv
  omega

set_option maxHeartbeats 1000000 in
theorem plus_c (v1 v2 : Value) (m n : Nat) (w : World) (h1 : Dg 1000000000 w v1 m) (h2 : Dg 1000000000 w v2 n) (hm : (dg 1000000000 m).length ≤ 1000000) (hn : (dg 1000000000 n).length ≤ 1000000) :
    Calls Tryz.prog 190 #[v1, v2] w (DgP 1000000000 (m + n) w) := by
  obtain ⟨A1, c1, rfl, hc1, _, hr1⟩ := h1
  obtain ⟨A2, c2, rfl, hc2, _, hr2⟩ := h2
  have HR1 := Lib.hid hr1
  have HR2 := Lib.hid hr2
  have I1 := Lib.hid (dg_inR (b := 1000000000) (by decide) m)
  have I2 := Lib.hid (dg_inR (b := 1000000000) (by decide) n)
  have V1 := Lib.hid (val_dg (b := 1000000000) (by decide) m)
  have V2 := Lib.hid (val_dg (b := 1000000000) (by decide) n)
  clear hr1 hr2
  generalize dg 1000000000 m = p at *
  generalize dg 1000000000 n = q at *
  obtain ⟨mx, hmx⟩ : ∃ mx : Nat, (if p.length < q.length then (q.length : Int) else (p.length : Int)) = (mx : Int) := ⟨max p.length q.length, by split <;> omega⟩
  have hmx1 : p.length ≤ mx := by split at hmx <;> omega
  have hmx2 : q.length ≤ mx := by split at hmx <;> omega
  have hmx3 : mx ≤ 1000000 := by split at hmx <;> omega
  go_enter Tryz.func190, Tryz.ntmps190
  go_wp2_with fail
  clear hmx
  go_loopg [5, 6, 15] (mx + 1) (fun g v c i wr => ∃ (k : Nat) (cc : Int) (l : List Int), i = .int .i64 k ∧ c = .int .i64 cc ∧ 0 ≤ cc ∧ cc ≤ 1 ∧ k + g = mx + 1 ∧ wr.ownsRow w.heap.size 3 1 v k (l.map (Value.int .i64)) ∧ Hid (l.length = k ∧ InR 1000000000 l ∧ val 1000000000 l + (1000000000 : Int) ^ k * cc = val 1000000000 (p.take k) + val 1000000000 (q.take k)) ∧ Below w.heap.size w wr)
  case atStart => exact ⟨0, 0, [], rfl, rfl, by omega, by omega, by omega, World.ownsRow_nil _ _ _ _, ⟨rfl, InR.nil _, by simp [val]⟩, Below.refl _ _⟩
  case round =>
    obtain ⟨k, cc, l, rfl, rfl, hc0, hc1', hg, hown, HL, hB⟩ := hrel
    have HP := Lib.hid (HR1.out.below hB)
    have HQ := Lib.hid (HR2.out.below hB)
    have HB := Lib.hid hB
    have hsz := hB.size
    clear hB
    by_cases hlt : k < mx + 1
    · obtain ⟨g, rfl⟩ : ∃ g, gk = g + 1 := ⟨gk - 1, by omega⟩
      have b1 := I1.out.at_ (by decide) k
      have b2 := I2.out.at_ (by decide) k
      rw [List.getD_eq_getElem?_getD] at b1 b2
      obtain ⟨x, hx⟩ : ∃ x, p[k]?.getD 0 = x := ⟨_, rfl⟩
      obtain ⟨y, hy⟩ : ∃ y, q[k]?.getD 0 = y := ⟨_, rfl⟩
      rw [hx] at b1
      rw [hy] at b2
      obtain ⟨b10, b11⟩ := b1
      obtain ⟨b20, b21⟩ := b2
      have CP := Lib.hid (at_x A1 c1 p k x wr HP.out hx)
      have CQ := Lib.hid (at_x A2 c2 q k y wr HQ.out hy)
      have HX := Lib.hid hx
      have HY := Lib.hid hy
      clear hx hy
      have hkb : k ≤ 1000001 := by omega
      have HG := Lib.hid hg
      clear hg
      go_wp2_with (first
        | (go_at_call 199; (with_reducible refine (CP.out).mono ?_); rintro e w' ⟨rfl, rfl⟩)
        | (go_at_call 199; (with_reducible refine (CQ.out).mono ?_); rintro e w' ⟨rfl, rfl⟩)
        | (at_builtin; obtain ⟨i0, hi, hz0, hz1, hz2⟩ := info_parts info_int; refine wpList_append_own _ rfl _ _ 134 rfl w.heap.size 3 i0 (.int .i64 0) 1 8 Tryz.underlying134 hi hz0 hz1 hz2 rfl (by decide) _ _ _ rfl (hown.alloc _) ⟨wr.heap.size, 0, none⟩ 1 1 [.int .i64 ((x + y + cc) % 1000000000)] rfl rfl (cell_one_new _ _ _) (by simp [Value.oneCell']) (by unfold maxLen; omega) (by omega) (by simp; omega) ?_; intro v' w1 hown1 hgrow1 _; clear hi hz0 hz1 hz2))
      have hd0 : 0 ≤ (x + y + cc) / 1000000000 := by omega
      have hd1 : (x + y + cc) / 1000000000 ≤ 1 := by omega
      go_roundg g
      case measure => omega
      case rel =>
        obtain ⟨hl, hi, hv⟩ := HL.out
        refine ⟨k + 1, _, l ++ [(x + y + cc) % 1000000000], rfl, rfl, hd0, hd1, by have := HG.out; omega, by simpa using hown1, ⟨by simp [hl], hi.snoc (by omega) (by omega), sum_step (b := 1000000000) (by decide) hl hv HX.out HY.out⟩, ?_⟩
        exact (HB.out.alloc hsz _).grown hgrow1 (by simp; omega) (own_from hown)
    · obtain rfl : gk = 0 := by omega
      obtain ⟨hl, hi, hv⟩ := HL.out
      obtain ⟨A, c, hve, hlc, hcm, hrow, hln⟩ := own_row hown
      have hfrom := own_from hown
      have hval := Lib.hid (sum_end (b := 1000000000) (by decide) I1.out I2.out (by omega) (by omega) hl hi hv hc0 V1.out V2.out)
      have HROW := Lib.hid hrow
      have HIN := Lib.hid hi
      have HF := Lib.hid hfrom
      clear hi hv hrow hfrom hown
      subst hve
      have hcm' : c ≤ 9223372036854775807 := by unfold maxLen at hcm; omega
      have hlen : k = l.length := hl.symm
      subst hlen
      go_wp2_with (go_at_call 222; refine (cut_c A c l wr HROW.out hlc hcm').mono ?_; intro e w' hcut; obtain ⟨rfl, v, rfl, hdg, hblk⟩ := cut_dg (b := 1000000000) (by decide) HROW.out hlc hcm' HIN.out hval.out hcut)
      go_ret
      exact ⟨v, rfl, hdg, fun g hg => by obtain ⟨a, rfl, rfl⟩ := hblk g hg; exact HF.out _ rfl, HB.out⟩

end Go.Proofs.YtekbfommnmikbaaGreatDoor

namespace Go.Proofs.YtekbfommnmikbaaGreatDoor
set_option linter.unusedVariables false
set_option linter.unusedSimpArgs false
open Go.RowKit
attribute [local go_sem] max2_int min2_int max_two min_two

theorem at_q (A : Option Addr) (c : Nat) (xs : List Int) (i : Nat) (x : Int) (w : World) (n : Nat) (hr : Row .i64 w A xs) (hx : xs[i]?.getD 0 = x) :
    Calls Tryz.prog 199 #[.slice A xs.length c, .int .i64 i] (w.drewN n) fun e w' => e = .returned (.int .i64 x) ∧ ∃ m, w' = w.drewN m :=
  (at_x A c xs i x (w.drewN n) (hr.below (below_drewN (Below.refl _ _) n)) hx).mono fun _ _ ⟨he, hw⟩ => ⟨he, n, hw.symm⟩

set_option maxHeartbeats 1000000 in
theorem clone_c (A : Option Addr) (c : Nat) (xs : List Int) (w : World) (hr : Row .i64 w A xs) (hb : xs.length ≤ 1000000) :
    Calls Tryz.prog 224 #[.slice A xs.length c] w fun e w' => ∃ v, e = .returned v ∧ w'.ownsRow w.heap.size 3 1 v xs.length (xs.map (Value.int .i64)) ∧ Below w.heap.size w w' := by
  obtain ⟨i0, hi, hz0, hz1, hz2⟩ := info_parts info_int
  have q22 : ∀ (w : World) (a : Option Addr) (n c n' c' : Nat), (binOp .eql 134 (.slice a n c) (.slice none n' c')).run Tryz.prog w = .ok (.bool a.isNone) w := fun w a n c n' c' => Lib.run_eql_slice_nil w _ _ a n c n' c' Tryz.underlying134
  have HR := Lib.hid hr
  clear hr
  have HI := Lib.hid (And.intro hi (And.intro hz0 (And.intro hz1 hz2)))
  clear hi hz0 hz1 hz2
  cases A with
  | none =>
    have hx : xs = [] := by
      cases xs with
      | nil => rfl
      | cons x xs => obtain ⟨a, e, _⟩ := HR.out 0 (by simp); cases e
    subst hx
    go_enter Tryz.func224, Tryz.ntmps224
    go_wp2
    go_ret
    exact ⟨_, rfl, World.ownsRow_nil _ _ _ _, Below.refl _ _⟩
  | some a =>
    go_enter Tryz.func224, Tryz.ntmps224
    go_wp2_with (at_builtin; refine wpList_append_own _ rfl _ _ 134 rfl w.heap.size 3 i0 (.int .i64 0) 1 8 Tryz.underlying134 HI.out.1 HI.out.2.1 HI.out.2.2.1 HI.out.2.2.2 rfl (by decide) _ _ _ rfl (World.ownsRow_made w #[] 0 (Nat.le_refl _) (Nat.zero_le _) rfl) a xs.length c (xs.map (Value.int .i64)) rfl (by simp) ?qc2 ?qc3 ?qc4 ?qc5 ?qc6 ?_)
    case qc2 =>
      intro j u hj
      have hjn : j < xs.length := by
        have := (List.getElem?_eq_some_iff.1 hj).1
        simpa using this
      obtain ⟨a', e, hc⟩ := (HR.out.alloc (.cells #[] 3)) j hjn
      cases e
      rw [hc]
      rw [List.getElem?_map, List.getElem?_eq_getElem hjn] at hj
      rw [List.getElem?_eq_getElem hjn]
      exact hj
    case qc3 => intro u hu; obtain ⟨x, _, rfl⟩ := List.mem_map.1 hu; rfl
    case qc4 => unfold maxLen; omega
    case qc5 => omega
    case qc6 => simp
    intro v' w1 hown hgrow hnil
    go_wp2
    go_ret
    refine ⟨v', rfl, by simpa using hown, ?_⟩
    exact ((Below.refl _ w).alloc (Nat.le_refl _) _).grown hgrow (by simp) (by intro k hk; simp [Value.ownBlock] at hk; omega)

/-- One place of a difference. -/
theorem diff_step {b : Nat} {p q l : List Int} {k : Nat} {c x y : Int} {d r : Int} (hl : k < l.length) (hv : val b (l.take k) - (b : Int) ^ k * c = val b (p.take k) - val b (q.take k)) (hx : p[k]?.getD 0 = x) (hy : q[k]?.getD 0 = y)
    (hd : x - y - c = r - (b : Int) * d) : val b ((l.set k r).take (k + 1)) - (b : Int) ^ (k + 1) * d = val b (p.take (k + 1)) - val b (q.take (k + 1)) := by
  have e1 : (l.set k r).take k = l.take k := by rw [List.take_set_of_le (Nat.le_refl _)]
  rw [val_take_succ, val_take_succ, val_take_succ, e1, getD_set _ _ _ _ hl, if_pos rfl, List.getD_eq_getElem?_getD, List.getD_eq_getElem?_getD, hx, hy, Int.pow_succ]
  generalize (b : Int) ^ k = B at *
  have : B * (x - y - c) = B * (r - (b : Int) * d) := by rw [hd]
  grind

/-- The end of a difference: nothing is borrowed. -/
theorem diff_end {b : Nat} (hb : 2 ≤ b) {p q l : List Int} {c : Int} {m n : Nat} (hl : l.length = p.length) (hi : InR b l) (hv : val b (l.take p.length) - (b : Int) ^ p.length * c = val b (p.take p.length) - val b (q.take p.length))
    (hc : c = 0 ∨ c = 1) (hm : val b p = (m : Int)) (hn : val b q = (n : Int)) (hqp : q.length ≤ p.length) (hle : n ≤ m) : val b l = ((m - n : Nat) : Int) := by
  rw [List.take_of_length_le (by omega), List.take_of_length_le (by omega), List.take_of_length_le (by omega), hm, hn] at hv
  have h1 := val_lt hi
  rw [hl] at h1
  rcases hc with rfl | rfl
  · simp at hv; omega
  · simp at hv; omega

set_option maxHeartbeats 2000000 in
theorem minus_c (v1 v2 : Value) (m n : Nat) (w : World) (h1 : Dg 1000000000 w v1 m) (h2 : Dg 1000000000 w v2 n) (hm : (dg 1000000000 m).length ≤ 1000000) (hle : n ≤ m) :
    Calls Tryz.prog 192 #[v1, v2] w (DgP 1000000000 (m - n) w) := by
  obtain ⟨A1, c1, rfl, hc1, _, hr1⟩ := h1
  obtain ⟨A2, c2, rfl, hc2, _, hr2⟩ := h2
  have HR1 := Lib.hid hr1
  have HR2 := Lib.hid hr2
  have I1 := Lib.hid (dg_inR (b := 1000000000) (by decide) m)
  have I2 := Lib.hid (dg_inR (b := 1000000000) (by decide) n)
  have V1 := Lib.hid (val_dg (b := 1000000000) (by decide) m)
  have V2 := Lib.hid (val_dg (b := 1000000000) (by decide) n)
  have hn : (dg 1000000000 n).length ≤ (dg 1000000000 m).length := dg_length_mono (by decide) hle
  clear hr1 hr2
  have HLE := Lib.hid hle
  clear hle
  generalize dg 1000000000 m = p at *
  generalize dg 1000000000 n = q at *
  go_enter Tryz.func192, Tryz.ntmps192
  go_wp2_with (go_at_call 224; refine (clone_c A1 c1 p w HR1.out hm).mono ?_; rintro e w0 ⟨v0, rfl, hown0, hB0⟩; obtain ⟨A, c, rfl, hlc, hcm, -, -⟩ := own_row hown0)
  have HO := Lib.hid hown0
  have HB0 := Lib.hid hB0
  clear hown0 hB0
  go_loopg [6, 13] p.length (fun g bo i wr => ∃ (k : Nat) (cc : Int) (l : List Int), i = .int .i64 k ∧ bo = .int .i64 cc ∧ Hid (cc = 0 ∨ cc = 1) ∧ 0 ≤ cc ∧ cc ≤ 1 ∧ k + g = p.length ∧ Hid (wr.ownsRow w.heap.size 3 1 (.slice A p.length c) p.length (l.map (Value.int .i64))) ∧ Hid (l.length = p.length ∧ InR 1000000000 l ∧ val 1000000000 (l.take k) - (1000000000 : Int) ^ k * cc = val 1000000000 (p.take k) - val 1000000000 (q.take k)) ∧ Hid (Below w.heap.size w wr))
  case atStart => exact ⟨0, 0, p, rfl, rfl, .inl rfl, by omega, by omega, by omega, HO.out, ⟨rfl, I1.out, by simp [val]⟩, HB0.out⟩
  case round =>
    obtain ⟨k, cc, l, rfl, rfl, HC, hcc0, hcc1, hg, HOW, HL, HB⟩ := hrel
    have HP := Lib.hid (HR1.out.below HB.out)
    have HQ := Lib.hid (HR2.out.below HB.out)
    have hsz := HB.out.size
    by_cases hlt : k < p.length
    · obtain ⟨g, rfl⟩ : ∃ g, gk = g + 1 := ⟨gk - 1, by omega⟩
      have HG := Lib.hid hg
      clear hg
      obtain ⟨b10, b11⟩ := I1.out.at_ (by decide) k
      obtain ⟨b20, b21⟩ := I2.out.at_ (by decide) k
      rw [List.getD_eq_getElem?_getD] at b10 b11 b20 b21
      obtain ⟨a, rfl, hcell⟩ := HP.out k hlt
      obtain ⟨x, hx⟩ : ∃ x, p[k]?.getD 0 = x := ⟨_, rfl⟩
      obtain ⟨y, hy⟩ : ∃ y, q[k]?.getD 0 = y := ⟨_, rfl⟩
      rw [hx] at b10 b11 hcell
      rw [hy] at b20 b21
      obtain ⟨gb, cap, hv, hgb, hgb2⟩ := HOW.out.form (by omega)
      obtain ⟨rfl, rfl⟩ : A = some ⟨gb, 0, none⟩ ∧ c = cap := by simpa using hv
      clear hv
      obtain ⟨hll, hli, hlv⟩ := HL.out
      have hold : wr.cell? ⟨gb, k, none⟩ = some (.int .i64 (l[k]?.getD 0)) := by
        rw [HOW.out.cellAt k (by omega), List.getElem?_map, List.getElem?_eq_getElem (by omega)]; rfl
      obtain ⟨z, hz⟩ : ∃ z, l[k]?.getD 0 = z := ⟨_, rfl⟩
      rw [hz] at hold
      have hfz : wr.frozen? ⟨gb, k, none⟩ = false := HOW.out.frozenAt k
      have HX := Lib.hid hx
      have HY := Lib.hid hy
      have HLV := Lib.hid hlv
      have HLI := Lib.hid hli
      clear hx hy hz hlv hli
      by_cases hneg : x - y - cc < 0
      · go_wp2_with fail
        go_quiet ((go_at_call 199; exact at_q A2 c2 q k y wr _ HQ.out HY.out))
        go_wp2
        go_roundg g
        case measure => omega
        case rel =>
          refine ⟨k + 1, _, l.set k (x - y - cc + 1000000000), rfl, rfl, .inr rfl, by omega, by omega, by have := HG.out; omega, ?_, ⟨by simpa using hll, HLI.out.set k (by omega) (by omega), diff_step (b := 1000000000) (by omega) HLV.out HX.out HY.out (by omega)⟩, ?_⟩
          · show World.ownsRow _ _ _ _ _ _ _
            rw [List.map_set]
            exact own_drewN (HOW.out.stored k _).1 nq
          · exact below_drewN (HB.out.setCell (p := ⟨gb, k, none⟩) hgb _) nq
      · go_wp2_with fail
        go_quiet ((go_at_call 199; exact at_q A2 c2 q k y wr _ HQ.out HY.out))
        go_wp2
        go_roundg g
        case measure => omega
        case rel =>
          refine ⟨k + 1, _, l.set k (x - y - cc), rfl, rfl, .inl rfl, by omega, by omega, by have := HG.out; omega, ?_, ⟨by simpa using hll, HLI.out.set k (by omega) (by omega), diff_step (b := 1000000000) (by omega) HLV.out HX.out HY.out (by omega)⟩, ?_⟩
          · show World.ownsRow _ _ _ _ _ _ _
            rw [List.map_set]
            exact own_drewN (HOW.out.stored k _).1 nq
          · exact below_drewN (HB.out.setCell (p := ⟨gb, k, none⟩) hgb _) nq
    · obtain rfl : k = p.length := by omega
      obtain ⟨hl, hi, hv⟩ := HL.out
      have hval := Lib.hid (diff_end (b := 1000000000) (by decide) hl hi hv HC.out V1.out V2.out hn HLE.out)
      obtain ⟨A', c', hve, hlc', hcm', hrow, hln⟩ := own_row HOW.out
      have hfrom := own_from HOW.out
      obtain ⟨rfl, -, rfl⟩ : A = A' ∧ p.length = l.length ∧ c = c' := by simpa using hve
      have HROW := Lib.hid hrow
      have HIN := Lib.hid hi
      have HF := Lib.hid hfrom
      have hcm2 : c ≤ 9223372036854775807 := by unfold maxLen at hcm'; omega
      have hlc2 : l.length ≤ c := hlc'
      clear hi hv hrow hfrom hve hln hcm' hlc' HL HOW
      have hlen := Lib.hid hl
      clear hl
      go_wp2_with (go_at_call 222; rw [← hlen.out]; refine (cut_c A c l wr HROW.out hlc2 hcm2).mono ?_; intro e w' hcut; obtain ⟨rfl, v, rfl, hdg, hblk⟩ := cut_dg (b := 1000000000) (by decide) HROW.out hlc2 hcm2 HIN.out hval.out hcut)
      go_ret
      exact ⟨v, rfl, hdg, fun g hg => by obtain ⟨a, rfl, rfl⟩ := hblk g hg; exact HF.out _ rfl, HB.out⟩

end Go.Proofs.YtekbfommnmikbaaGreatDoor

namespace Go.Proofs.YtekbfommnmikbaaGreatDoor
set_option linter.unusedVariables false
set_option linter.unusedSimpArgs false
open Go.RowKit
attribute [local go_sem] max2_int min2_int max_two min_two

theorem make_int (m : Nat) (a : Int) (ha : a = (m : Int)) (hn : m ≤ 10000000) :
    ∀ W : World, (Instr.makeSlice 134 (.int .i64 a) (.int .i64 a)).run Tryz.prog W = .ok (.slice (some ⟨W.heap.size, 0, none⟩) m m) (W.alloc (.cells (madeCells #[.int .i64 0] m) 3)) := by
  intro W
  subst ha
  exact run_make_row' 134 3 (.int .i64 0) 8 Tryz.underlying134 info_int rfl .i64 .i64 m (by omega) (by omega) W

theorem own_zeros (W : World) (m : Nat) (hm : m ≤ 10000000) : (W.alloc (.cells (madeCells #[.int .i64 0] m) 3)).ownsRow W.heap.size 3 1 (.slice (some ⟨W.heap.size, 0, none⟩) m m) m ((List.replicate m (0 : Int)).map (Value.int .i64)) := by
  have h := World.ownsRow_lit (e := 3) (size := 1) W (madeCells #[.int .i64 0] m) m (Nat.le_refl _) (by unfold maxLen; omega) (by simp [madeCells])
  rw [toList_madeCells_one] at h
  rw [List.map_replicate]
  exact h

/-- One place of a product. -/
theorem mul_step {b : Nat} {q l : List Int} {i k : Nat} {c x y z n d r T : Int} (hl : i + k < l.length) (hv : val b l + (b : Int) ^ (i + k) * c = T + (b : Int) ^ i * (x * val b (q.take k)))
    (hy : q[k]?.getD 0 = y) (hz : l[i + k]?.getD 0 = z) (hn : n = z + x * y + c) (hd : n = r + (b : Int) * d) :
    val b (l.set (i + k) r) + (b : Int) ^ (i + (k + 1)) * d = T + (b : Int) ^ i * (x * val b (q.take (k + 1))) := by
  rw [val_set _ _ _ _ hl, val_take_succ, List.getD_eq_getElem?_getD, List.getD_eq_getElem?_getD, hy, hz, ← Nat.add_assoc, Int.pow_succ, Int.pow_add] at *
  generalize (b : Int) ^ i = B at *
  generalize (b : Int) ^ k = C at *
  generalize val b (q.take k) = V at *
  generalize val b l = L at *
  have : B * C * (r + (b : Int) * d) = B * C * (z + x * y + c) := by rw [← hd, hn]
  grind

/-- The end of a row of a product: nothing is carried on. -/
theorem mul_row {b : Nat} (hb : 2 ≤ b) {p q l : List Int} {i : Nat} {c x : Int} (hp : InR b p) (hq : InR b q) (hi : i < p.length) (hil : InR b l) (hx : p[i]?.getD 0 = x) (hc : 0 ≤ c)
    (hv : val b l + (b : Int) ^ (i + (q.length + 1)) * c = val b (p.take i) * val b q + (b : Int) ^ i * (x * val b (q.take (q.length + 1)))) : val b l = val b (p.take (i + 1)) * val b q := by
  rw [show q.take (q.length + 1) = q from List.take_of_length_le (by omega)] at hv
  have e : val b (p.take (i + 1)) * val b q = val b (p.take i) * val b q + (b : Int) ^ i * (x * val b q) := by
    rw [val_take_succ, List.getD_eq_getElem?_getD, hx]; grind
  rw [← e] at hv
  have h1 := val_lt (hp.take (i + 1))
  have h1' := val_nonneg (hp.take (i + 1))
  rw [List.length_take, Nat.min_eq_left (by omega)] at h1
  have h2 := val_lt hq
  have h2' := val_nonneg hq
  have h0 := val_nonneg hil
  have g1 : val b (p.take (i + 1)) * val b q ≤ val b (p.take (i + 1)) * (b : Int) ^ q.length := Int.mul_le_mul_of_nonneg_left (by omega) h1'
  have g2 : (val b (p.take (i + 1)) + 1) * (b : Int) ^ q.length ≤ (b : Int) ^ (i + 1) * (b : Int) ^ q.length := Int.mul_le_mul_of_nonneg_right (by omega) (Int.pow_nonneg (by omega))
  have g3 : (b : Int) ^ (i + (q.length + 1)) = (b : Int) ^ (i + 1) * (b : Int) ^ q.length := by rw [← Int.pow_add]; congr 1; omega
  have g4 : 0 < (b : Int) ^ q.length := pow_pos' (by omega) _
  rw [Int.add_mul, Int.one_mul] at g2
  have hc0 : c = 0 := by
    rcases Int.lt_or_le 0 c with h | h
    · exfalso
      have : (b : Int) ^ (i + (q.length + 1)) * 1 ≤ (b : Int) ^ (i + (q.length + 1)) * c := Int.mul_le_mul_of_nonneg_left (by omega) (by rw [g3]; exact Int.mul_nonneg (Int.pow_nonneg (by omega)) (by omega))
      rw [g3] at this hv
      omega
    · omega
  subst hc0
  simpa using hv

theorem mul_bound {x y B : Int} (hx0 : 0 ≤ x) (hx1 : x < B) (hy0 : 0 ≤ y) (hy1 : y < B) : 0 ≤ x * y ∧ x * y ≤ (B - 1) * (B - 1) :=
  ⟨Int.mul_nonneg hx0 hy0, Int.le_trans (Int.mul_le_mul_of_nonneg_left (show y ≤ B - 1 by omega) hx0) (Int.mul_le_mul_of_nonneg_right (show x ≤ B - 1 by omega) (by omega))⟩

theorem store_own {w : World} {base : Nat} {e : TypeId} {g n cap : Nat} {l : List Int} (h : w.ownsRow base e 1 (.slice (some ⟨g, 0, none⟩) n cap) n (l.map (Value.int .i64))) (j : Nat) (x : Int) :
    (w.setCell ⟨g, j, none⟩ (.int .i64 x)).ownsRow base e 1 (.slice (some ⟨g, 0, none⟩) n cap) n ((l.set j x).map (Value.int .i64)) := by
  rw [List.map_set]; exact (h.stored j _).1

theorem own_cell {w : World} {base : Nat} {e : TypeId} {g n cap : Nat} {l : List Int} (h : w.ownsRow base e 1 (.slice (some ⟨g, 0, none⟩) n cap) n (l.map (Value.int .i64))) (j : Nat) (hj : j < n) (hl : l.length = n) :
    w.cell? ⟨g, j, none⟩ = some (.int .i64 (l[j]?.getD 0)) := by
  rw [h.cellAt j (by omega), List.getElem?_map, List.getElem?_eq_getElem (by omega)]; rfl

theorem own_setCell_other {w : World} {base : Nat} {e : TypeId} {size : Nat} {v : Value} {n : Nat} {xs : List Value} (h : w.ownsRow base e size v n xs) (a : Addr) (u : Value) (hne : v.ownBlock ≠ some a.block) : (w.setCell a u).ownsRow base e size v n xs :=
  h.kept (row := some a.block) ⟨rfl, rfl, rfl, by simp [World.setCell], fun k _ hk => heap_setCell_other w a k u (fun e => hk (by simp [e]))⟩ (.inr hne)

set_option maxHeartbeats 4000000 in
theorem times_c (v1 v2 : Value) (m n : Nat) (w : World) (h1 : Dg 1000000000 w v1 m) (h2 : Dg 1000000000 w v2 n) (hm : (dg 1000000000 m).length ≤ 1000000) (hn : (dg 1000000000 n).length ≤ 1000000) :
    Calls Tryz.prog 200 #[v1, v2] w (DgP 1000000000 (m * n) w) := by
  obtain ⟨A1, c1, rfl, hc1, _, hr1⟩ := h1
  obtain ⟨A2, c2, rfl, hc2, _, hr2⟩ := h2
  have HR1 := Lib.hid hr1
  have HR2 := Lib.hid hr2
  have I1 := Lib.hid (dg_inR (b := 1000000000) (by decide) m)
  have I2 := Lib.hid (dg_inR (b := 1000000000) (by decide) n)
  have V1 := Lib.hid (val_dg (b := 1000000000) (by decide) m)
  have V2 := Lib.hid (val_dg (b := 1000000000) (by decide) n)
  clear hr1 hr2
  generalize dg 1000000000 m = p at *
  generalize dg 1000000000 n = q at *
  have hmk := make_int (p.length + q.length) (↑p.length + ↑q.length) (by simp) (by omega)
  obtain ⟨N, hN⟩ : ∃ N, p.length + q.length = N := ⟨_, rfl⟩
  rw [hN] at hmk
  go_enter Tryz.func200, Tryz.ntmps200
  go_wp2_with fail
  clear hmk
  have hown0 := own_zeros w N (by omega)
  have hB0 := (Below.refl w.heap.size w).alloc (Nat.le_refl _) (.cells (madeCells #[.int .i64 0] N) 3)
  generalize w.alloc (.cells (madeCells #[.int .i64 0] N) 3) = w0 at *
  have HN := Lib.hid hN
  have HB0 := Lib.hid hB0
  have HO0 := Lib.hid hown0
  clear hN hB0 hown0
  go_loopg [19] p.length (fun g iv wr => ∃ (i : Nat) (l : List Int), iv = .int .i64 i ∧ i + g = p.length ∧ Hid (wr.ownsRow w.heap.size 3 1 (.slice (some ⟨w.heap.size, 0, none⟩) N N) N (l.map (Value.int .i64))) ∧ Hid (l.length = N ∧ InR 1000000000 l ∧ val 1000000000 l = val 1000000000 (p.take i) * val 1000000000 q) ∧ Hid (Below w.heap.size w wr))
  case atStart => exact ⟨0, List.replicate N 0, rfl, by omega, HO0.out, ⟨by simp, InR.replicate (by decide) _, by simp [val_replicate, val]⟩, HB0.out⟩
  case round =>
    obtain ⟨i, l, rfl, hg, HOW, HL, HB⟩ := hrel
    by_cases hlt : i < p.length
    · obtain ⟨g, rfl⟩ : ∃ g, gk = g + 1 := ⟨gk - 1, by omega⟩
      have HG := Lib.hid hg
      clear hg
      have HP := Lib.hid (HR1.out.below HB.out)
      obtain ⟨a, rfl, hcell⟩ := HP.out i hlt
      obtain ⟨b10, b11⟩ := I1.out.at_ (by decide) i
      rw [List.getD_eq_getElem?_getD] at b10 b11
      obtain ⟨x, hx⟩ : ∃ x, p[i]?.getD 0 = x := ⟨_, rfl⟩
      rw [hx] at b10 b11 hcell
      have HX := Lib.hid hx
      clear hx
      go_wp2_with fail
      obtain ⟨w2, hw2⟩ : ∃ w2, wr.alloc (.cells #[.int .i64 0, .int .i64 0] 227) = w2 := ⟨_, rfl⟩
      have hsz := HB.out.size
      have hgw : w.heap.size < wr.heap.size := by
        rcases HOW.out.2 with ⟨h, _⟩ | ⟨g', _, _, h, _, hh, _⟩
        · simp at h
        · have := (Array.getElem?_eq_some_iff.1 hh).1
          simp at h; omega
      have q0 : w2.cell? ⟨wr.heap.size, 0, none⟩ = some (.int .i64 0) ∧ w2.cell? ⟨wr.heap.size, 1, none⟩ = some (.int .i64 0) ∧ w2.frozen? ⟨wr.heap.size, 0, none⟩ = false ∧ w2.frozen? ⟨wr.heap.size, 1, none⟩ = false ∧ w2.heap.size = wr.heap.size + 1 := by
        subst hw2; exact ⟨new_cell _ _ _ _, new_cell _ _ _ _, new_free _ _ _ _, new_free _ _ _ _, by simp⟩
      have hOW2 : w2.ownsRow w.heap.size 3 1 (.slice (some ⟨w.heap.size, 0, none⟩) N N) N (l.map (Value.int .i64)) := by subst hw2; exact HOW.out.alloc _
      have hB2 : Below w.heap.size w w2 := by subst hw2; exact HB.out.alloc hsz _
      rw [hw2]
      obtain ⟨bc, hbc⟩ : ∃ bc, wr.heap.size = bc := ⟨_, rfl⟩
      rw [hbc] at q0 hgw ⊢
      clear hw2 hbc
      have HOW2 := Lib.hid hOW2
      have HB2 := Lib.hid hB2
      clear hOW2 hB2
      obtain ⟨q00, q01, q02, q03, q04⟩ := q0
      go_loopg [27] (q.length + 1) (fun g kv w3 => ∃ (k : Nat) (c c' : Int) (l2 : List Int), kv = .int .i64 k ∧ k + g = q.length + 1 ∧ 0 ≤ c ∧ c < 1000000000 ∧ Hid (w3.ownsRow w.heap.size 3 1 (.slice (some ⟨w.heap.size, 0, none⟩) N N) N (l2.map (Value.int .i64)))
        ∧ w3.cell? ⟨bc, 0, none⟩ = some (.int .i64 c) ∧ w3.cell? ⟨bc, 1, none⟩ = some (.int .i64 c') ∧ w3.frozen? ⟨bc, 0, none⟩ = false ∧ w3.frozen? ⟨bc, 1, none⟩ = false
        ∧ Hid (l2.length = N ∧ InR 1000000000 l2 ∧ val 1000000000 l2 + (1000000000 : Int) ^ (i + k) * c = val 1000000000 (p.take i) * val 1000000000 q + (1000000000 : Int) ^ i * (x * val 1000000000 (q.take k))) ∧ Hid (Below w.heap.size w w3))
      case atStart => exact ⟨0, 0, 0, l, rfl, by omega, by omega, by omega, HOW2.out, q00, q01, q02, q03, ⟨HL.out.1, HL.out.2.1, by rw [HL.out.2.2]; simp [val]⟩, HB2.out⟩
      case round =>
        clear q00 q01 q02 q03 q04
        obtain ⟨k, c, c', l2, rfl, hg, hc0, hc1', HOW3, r0, r1, r2, r3, HL3, HB3⟩ := hrel
        have hNi : i + q.length < N := by have := HN.out; omega
        have hNm : N ≤ 2000000 := by have := HN.out; omega
        by_cases hlt2 : k < q.length + 1
        · obtain ⟨g, rfl⟩ : ∃ g, gk = g + 1 := ⟨gk - 1, by omega⟩
          have HG3 := Lib.hid hg
          clear hg
          have HQ := Lib.hid (HR2.out.below HB3.out)
          obtain ⟨b20, b21⟩ := I2.out.at_ (by decide) k
          rw [List.getD_eq_getElem?_getD] at b20 b21
          obtain ⟨y, hy⟩ : ∃ y, q[k]?.getD 0 = y := ⟨_, rfl⟩
          rw [hy] at b20 b21
          obtain ⟨m0, m1⟩ := mul_bound b10 b11 b20 b21
          obtain ⟨hll, hli, hlv⟩ := HL3.out
          obtain ⟨z0, z1⟩ := hli.at_ (by decide) (i + k)
          rw [List.getD_eq_getElem?_getD] at z0 z1
          have hcz := own_cell HOW3.out (i + k) (by omega) hll
          have hfz : wr.frozen? ⟨w.heap.size, i + k, none⟩ = false := HOW3.out.frozenAt (i + k)
          obtain ⟨z, hz⟩ : ∃ z, l2[i + k]?.getD 0 = z := ⟨_, rfl⟩
          rw [hz] at z0 z1 hcz
          have HY := Lib.hid hy
          have HZ := Lib.hid hz
          have HLI := Lib.hid hli
          have HLV := Lib.hid hlv
          clear hy hz hli hlv
          have hxy : x * y ≤ 999999998000000001 := by simpa using m1
          clear m1
          have hne : ¬ bc = w.heap.size := by omega
          have hne' : ¬ w.heap.size = bc := by omega
          go_wp2_with fail
          go_quiet ((go_at_call 199; exact at_q A2 c2 q k y wr _ HQ.out HY.out))
          go_wp2
          go_roundg g
          case measure => omega
          case rel =>
            have e1 : (wr.setCell ⟨w.heap.size, i + k, none⟩ (.int .i64 ((z + x * y + c) % 1000000000))).ownsRow w.heap.size 3 1 (.slice (some ⟨w.heap.size, 0, none⟩) N N) N ((l2.set (i + k) ((z + x * y + c) % 1000000000)).map (Value.int .i64)) := store_own HOW3.out _ _
            refine ⟨k + 1, (z + x * y + c) / 1000000000, c, l2.set (i + k) ((z + x * y + c) % 1000000000), rfl, by have := HG3.out; omega, by omega, by omega, ?_, ?_, ?_, ?_, ?_, ⟨by simpa using hll, HLI.out.set _ (by omega) (by omega), mul_step (b := 1000000000) (by omega) HLV.out HY.out HZ.out rfl (by omega)⟩, ?_⟩
            · exact own_drewN (own_setCell_other (own_setCell_other e1 ⟨bc, 0, none⟩ _ (by simp [Value.ownBlock]; omega)) ⟨bc, 1, none⟩ _ (by simp [Value.ownBlock]; omega)) nq
            · exact set_other (a := ⟨bc, 1, none⟩) _ (by simp) (set_same _ (set_far (a := ⟨w.heap.size, i + k, none⟩) (b := ⟨bc, 0, none⟩) _ hne' r0))
            · exact set_same _ (set_other (a := ⟨bc, 0, none⟩) (b := ⟨bc, 1, none⟩) _ (by simp) (set_far (a := ⟨w.heap.size, i + k, none⟩) (b := ⟨bc, 1, none⟩) _ hne' r1))
            · simpa using r2
            · simpa using r3
            · exact below_drewN (((HB3.out.setCell (p := ⟨w.heap.size, i + k, none⟩) (Nat.le_refl _) _).setCell (p := ⟨bc, 0, none⟩) (Nat.le_of_lt hgw) _).setCell (p := ⟨bc, 1, none⟩) (Nat.le_of_lt hgw) _) nq
        · obtain rfl : k = q.length + 1 := by omega
          have hrow := Lib.hid (mul_row (b := 1000000000) (by decide) I1.out I2.out hlt HL3.out.2.1 HX.out hc0 HL3.out.2.2)
          go_wp2
          go_roundg g
          case measure => omega
          case rel => exact ⟨i + 1, l2, rfl, by have := HG.out; omega, HOW3.out, ⟨HL3.out.1, HL3.out.2.1, hrow.out⟩, HB3.out⟩
    · obtain rfl : i = p.length := by omega
      obtain ⟨hl, hi, hv⟩ := HL.out
      have hval : val 1000000000 l = ((m * n : Nat) : Int) := by rw [hv, List.take_of_length_le (Nat.le_refl _), V1.out, V2.out]; simp
      have HVAL := Lib.hid hval
      obtain ⟨A', c', hve, hlc', hcm', hrow, hln⟩ := own_row HOW.out
      obtain ⟨hA, -, hC⟩ := Value.slice.inj hve
      subst hA; subst hC
      have HROW := Lib.hid hrow
      have HIN := Lib.hid hi
      have hcm2 : N ≤ 9223372036854775807 := by unfold maxLen at hcm'; omega
      have hlc2 : l.length ≤ N := hlc'
      clear hi hv hrow hve hln hcm' hlc' HL HOW hval
      have hlen := Lib.hid hl
      clear hl
      go_wp2_with (go_at_call 222; rw [show (Value.slice (some ⟨w.heap.size, 0, none⟩) N N) = Value.slice (some ⟨w.heap.size, 0, none⟩) l.length N from by rw [hlen.out]]; refine (cut_c _ N l wr HROW.out hlc2 hcm2).mono ?_; intro e w' hcut; obtain ⟨rfl, v, rfl, hdg, hblk⟩ := cut_dg (b := 1000000000) (by decide) HROW.out hlc2 hcm2 HIN.out HVAL.out hcut)
      go_ret
      exact ⟨v, rfl, hdg, fun g hg => by obtain ⟨a, ha, rfl⟩ := hblk g hg; cases ha; exact Nat.le_refl _, HB.out⟩

/-- The one number in a slice of its own. -/
theorem lit_row (w : World) (x : Int) (t : TypeId) : Row .i64 (w.alloc (.cells #[.int .i64 x] t)) (some ⟨w.heap.size, 0, none⟩) [x] := by
  intro j hj
  have : j = 0 := by simpa using hj
  subst this
  exact ⟨_, rfl, by rw [add_lit]; exact new_cell _ _ _ _⟩

set_option maxHeartbeats 1000000 in
theorem small_c (v1 : Value) (m n : Nat) (w : World) (h1 : Dg 1000000000 w v1 m) (hm : (dg 1000000000 m).length ≤ 1000000) (hn : n < 1000000000) :
    Calls Tryz.prog 225 #[v1, .int .i64 n] w (DgP 1000000000 (m * n) w) := by
  have H1 := Lib.hid h1
  clear h1
  have hrow := Lib.hid (lit_row w n 3)
  have hb := Lib.hid ((Below.refl w.heap.size w).alloc (Nat.le_refl _) (.cells #[.int .i64 (n : Int)] 3))
  go_enter Tryz.func225, Tryz.ntmps225
  go_wp2_with fail
  refine (cut_c (some ⟨w.heap.size, 0, none⟩) 1 [(n : Int)] _ hrow.out (by simp) (by omega)).mono ?_
  intro e w' hcut
  obtain ⟨rfl, v, rfl, hdg, hblk⟩ := cut_dg (b := 1000000000) (n := n) (by decide) hrow.out (by simp) (by omega) (InR.cons (by omega) (by omega) (InR.nil _)) (by simp [val]) hcut
  have HD := Lib.hid hdg
  clear hcut hdg hblk
  have hl : (dg 1000000000 n).length ≤ 1 := (dg_length_le (by decide) _ _).2 (by omega)
  go_wp2_with fail
  refine (times_c v1 v m n _ (H1.out.below hb.out) HD.out hm (by omega)).mono ?_
  rintro e w' ⟨u, rfl, hu, hf, hb2⟩
  have HU := Lib.hid hu
  have HF := Lib.hid hf
  have HB2 := Lib.hid hb2
  clear hu hf hb2
  go_wp2
  go_ret
  exact ⟨u, rfl, HU.out, HF.out.mono (by simp), below_then' hb.out HB2.out⟩

end Go.Proofs.YtekbfommnmikbaaGreatDoor

namespace Go.Proofs.YtekbfommnmikbaaGreatDoor
set_option linter.unusedVariables false
set_option linter.unusedSimpArgs false
open Go.RowKit
attribute [local go_sem] max2_int min2_int max_two min_two

/-- v is the whole z: its sign, and the parts of its magnitude. -/
def Wh (w : World) (v : Value) (z : Int) : Prop := ∃ p, v = .agg #[.bool (decide (z < 0)), p] ∧ Dg 1000000000 w p z.natAbs

theorem Wh.below {w w' : World} {v : Value} {z : Int} (h : Wh w v z) (hb : Below w.heap.size w w') : Wh w' v z := by
  obtain ⟨p, e, hp⟩ := h
  exact ⟨p, e, hp.below hb⟩

theorem Wh.form {w : World} {v : Value} {z : Int} (h : Wh w v z) : ∃ b A n c, v = .agg #[.bool b, .slice A n c] := by
  obtain ⟨p, rfl, A, c, rfl, _⟩ := h
  exact ⟨_, _, _, _, rfl⟩

/-- A call returns the whole z; what was there is as it was. -/
def WhP (z : Int) (w : World) (e : Ending) (w' : World) : Prop := ∃ v, e = .returned v ∧ Wh w' v z ∧ Below w.heap.size w w'

/-- What made returns: the very parts, and the sign, but for 0. -/
def MadeP (b : Bool) (n : Nat) (v : Value) (w : World) (e : Ending) (w' : World) : Prop := e = .returned (.agg #[.bool (b && decide (0 < n)), v]) ∧ Below w.heap.size w w'

set_option maxHeartbeats 1000000 in
theorem made_c (b : Bool) (v : Value) (n : Nat) (w : World) (h : Dg 1000000000 w v n) :
    Calls Tryz.prog 189 #[.bool b, v] w (MadeP b n v w) := by
  have H := Lib.hid h
  obtain ⟨A, c, rfl, hlc, hcm, hr⟩ := h
  have hl : (dg 1000000000 n).length = 0 ↔ n = 0 := by rw [List.length_eq_zero_iff]; exact dg_eq_nil (by decide)
  generalize hL : (dg 1000000000 n).length = L at *
  clear hr
  have HL := Lib.hid hL
  clear hL
  cases b with
  | false =>
    go_enter Tryz.func189, Tryz.ntmps189
    go_wp2
    refine bodyPost_ret (v := .agg #[.bool false, .slice A L c]) (by simp [results, Tryz.results189, go_sem]) rfl ?_
    exact ⟨by simp, (by repeat (first | exact Below.refl _ _ | exact HB.out | (refine Below.alloc ?_ (by first | (simp; done) | (simp; omega)) _) | (refine Below.setCell ?_ (by first | (simp; done) | (simp; omega)) _) | refine Below.drew ?_ | refine below_drewN ?_ _))⟩
  | true =>
    by_cases h0 : 0 < L
    · go_enter Tryz.func189, Tryz.ntmps189
      go_wp2
      refine bodyPost_ret (v := .agg #[.bool true, .slice A L c]) (by simp [results, Tryz.results189, go_sem]) rfl ?_
      exact ⟨by have : 0 < n := by omega
                simp [this], (by repeat (first | exact Below.refl _ _ | exact HB.out | (refine Below.alloc ?_ (by first | (simp; done) | (simp; omega)) _) | (refine Below.setCell ?_ (by first | (simp; done) | (simp; omega)) _) | refine Below.drew ?_ | refine below_drewN ?_ _))⟩
    · go_enter Tryz.func189, Tryz.ntmps189
      go_wp2
      refine bodyPost_ret (v := .agg #[.bool false, .slice A L c]) (by simp [results, Tryz.results189, go_sem]) rfl ?_
      exact ⟨by have : ¬ 0 < n := by omega
                simp [this], (by repeat (first | exact Below.refl _ _ | exact HB.out | (refine Below.alloc ?_ (by first | (simp; done) | (simp; omega)) _) | (refine Below.setCell ?_ (by first | (simp; done) | (simp; omega)) _) | refine Below.drew ?_ | refine below_drewN ?_ _))⟩

theorem Dg.form {b : Nat} {w : World} {v : Value} {n : Nat} (h : Dg b w v n) : ∃ A l c, v = .slice A l c := by
  obtain ⟨A, c, rfl, _⟩ := h
  exact ⟨_, _, _, rfl⟩

/-- v is the whole z, its parts lie from block k on (or nowhere). -/
def WhN (k : Nat) (w : World) (v : Value) (z : Int) : Prop := ∃ p, v = .agg #[.bool (decide (z < 0)), p] ∧ Dg 1000000000 w p z.natAbs ∧ FromB k p
theorem WhN.wh {k : Nat} {w : World} {v : Value} {z : Int} (h : WhN k w v z) : Wh w v z := by
  obtain ⟨p, e, h1, _⟩ := h
  exact ⟨p, e, h1⟩
theorem WhN.below {k : Nat} {w w' : World} {v : Value} {z : Int} (h : WhN k w v z) (hb : Below w.heap.size w w') : WhN k w' v z := by
  obtain ⟨p, e, h1, h2⟩ := h
  exact ⟨p, e, h1.below hb, h2⟩
theorem WhN.set {k : Nat} {w : World} {v : Value} {z : Int} {a : Addr} (h : WhN k w v z) (hk : a.block < k) (x : Value) : WhN k (w.setCell a x) v z := by
  obtain ⟨p, e, h1, h2⟩ := h
  exact ⟨p, e, h1.set h2 hk x, h2⟩
theorem WhN.mono {k k' : Nat} {w : World} {v : Value} {z : Int} (h : WhN k w v z) (hk : k' ≤ k) : WhN k' w v z := by
  obtain ⟨p, e, h1, h2⟩ := h
  exact ⟨p, e, h1, h2.mono hk⟩
/-- A call returns the whole z, newly made. -/
def WhPN (z : Int) (w : World) (e : Ending) (w' : World) : Prop := ∃ v, e = .returned v ∧ WhN w.heap.size w' v z ∧ Below w.heap.size w w'
theorem whPN_mk {z : Int} {w W : World} {b : Bool} {p : Value} (hz : b = decide (z < 0)) (hd : Dg 1000000000 W p z.natAbs) (hf : FromB w.heap.size p) (hb : Below w.heap.size w W) : WhPN z w (.returned (.agg #[.bool b, p])) W :=
  ⟨_, rfl, ⟨p, by rw [hz], hd, hf⟩, hb⟩

end Go.Proofs.YtekbfommnmikbaaGreatDoor

namespace Go.Proofs.YtekbfommnmikbaaGreatDoor
set_option linter.unusedVariables false
set_option linter.unusedSimpArgs false
open Go.RowKit Go.Shelf
attribute [local go_sem] Oper.semAt_some

/-- An index of a list of L. -/
abbrev Ix (L : Nat) := { i : Nat // i < L }
/-- The first k indices from L - 1 down. -/
def dn (L k : Nat) : List (Ix L) := (List.range (min k L)).attach.map fun j => ⟨L - 1 - j.1, by have := List.mem_range.1 j.2; omega⟩
theorem dn_succ (L k : Nat) (h : k < L) : dn L (k + 1) = dn L k ++ [⟨L - 1 - k, by omega⟩] := by
  have e1 : min (k + 1) L = k + 1 := by omega
  have e2 : min k L = k := by omega
  apply List.ext_getElem
  · simp [dn, e1, e2]
  · intro i h1 h2
    have hi : i < k + 1 := by simp [dn, e1] at h1; omega
    by_cases hk : i < k
    · rw [List.getElem_append_left (by simp [dn, e2]; exact hk)]
      simp [dn]
    · obtain rfl : i = k := by omega
      rw [List.getElem_append_right (by simp [dn, e2])]
      simp [dn]
theorem dn_length (L k : Nat) (h : k ≤ L) : (dn L k).length = k := by simp [dn]; omega
theorem dn_zero (L : Nat) : dn L 0 = [] := by simp [dn]

/-- What a round of the loop must keep: the box with the slice, and what lay below n₀. -/
def Kd (n₀ Bs : Nat) (W W' : World) : Prop := Below n₀ W W' ∧ W'.heap[Bs]? = W.heap[Bs]?
theorem Kd.t {n₀ Bs : Nat} {A B C : World} (h : Kd n₀ Bs A B) (k : Kd n₀ Bs B C) : Kd n₀ Bs A C := ⟨h.1.trans k.1, k.2.trans h.2⟩
theorem Kd.b {n₀ Bs : Nat} {w : World} (hn : n₀ ≤ w.heap.size) (hB : Bs < w.heap.size) (W : World) (l : Nat) (o o' : Obj) (hl : w.heap.size ≤ l) (h : W.heap[l]? = some o) (h1 : o.isCells = false) (h2 : o.isWalk = false) : Kd n₀ Bs W (W.putObj l o') :=
  ⟨belowK_b hn W l o o' hl h h1 h2, World.putObj_heap_other (by omega)⟩

set_option maxRecDepth 100000 in
set_option maxHeartbeats 2000000 in
/-- The closure: for every loop body that keeps what it reads. -/
theorem down1_in (F : Fence) (n : Nat) (h7 : F.fn 239) (hro : F.round = none) (hn : 1 ≤ n) (l Bs n₀ : Nat) (A : Option Addr) (cap : Nat) (zs : List Int) (hreach : zs.length ≤ 9223372036854775807) (J Jx : List (Ix zs.length) → World → Prop)
    (W : World) (hA : ∀ a, A = some a → zs.length = 0 ∨ a.block < n₀) (hY : ∀ pre x W1, J pre W1 → pre.length < zs.length → YieldAt F (n - 1) Tryz.prog l #[.int .i64 ((x.1 : Nat) : Int), .int .i64 (zs[x.1]?.getD 0)] W1 fun e W' =>
      (e = .returned (.bool true) ∧ J (pre ++ [x]) W' ∧ Kd n₀ Bs W1 W') ∨ (e = .returned (.bool false) ∧ Jx (pre ++ [x]) W'))
    (hBs : W.cell? ⟨Bs, 0, none⟩ = some (.slice A zs.length cap)) (hc : Row .i64 W A zs) (h0 : J [] W) :
    CallsIn F n Tryz.prog 239 #[.func (.yield l) #[] #[], .pointer (some ⟨Bs, 0, none⟩)] W fun e W' => (∃ v, e = .returned v) ∧
      ((∃ ys, ys = dn zs.length zs.length ∧ J ys W') ∨ (∃ pre, (∃ k, k < zs.length ∧ pre = dn zs.length (k + 1)) ∧ Jx pre W')) := by
  refine callsIn_of_wp Tryz.func239 rfl h7 ?_ hro
  simp only [Tryz.ntmps239, List.size_toArray, List.length_cons, List.length_nil, Nat.reduceAdd, Nat.reduceSub, Array.replicate_succ, Array.replicate_zero, List.push_toArray, List.append_toArray, List.nil_append, List.cons_append]
  have HC := Lib.hid hc
  clear hc
  gi_wp2
  have HBs := Lib.hid hBs
  clear hBs
  gi_loopw [3] (fun i wr => ∃ k : Nat, k ≤ zs.length ∧ i = .int .i64 ((zs.length : Int) - 1 - k) ∧ J (dn zs.length k) wr ∧ Hid (Kd n₀ Bs W wr))
    (fun i _ => (intOf i + 1).toNat)
  case atStart => exact ⟨0, Nat.zero_le _, by simp, by rw [dn_zero]; exact h0, ⟨Below.refl _ _, rfl⟩⟩
  case round =>
    obtain ⟨k, hk, rfl, hJs, HX⟩ := hrel
    have hbx : wr.cell? ⟨Bs, 0, none⟩ = some (.slice A zs.length cap) := (World.cell?_of_block (w := W) (a := ⟨Bs, 0, none⟩) HX.out.2).trans HBs.out
    by_cases hlt : k < zs.length
    · obtain ⟨j, hj⟩ : ∃ j, zs.length = k + j + 1 := ⟨zs.length - k - 1, by omega⟩
      have HJ := Lib.hid hj
      have hjl : j < zs.length := by omega
      have ej : ((zs.length : Int) - 1 - k) = (j : Int) := by omega
      rw [ej]
      obtain ⟨a, rfl, hcell⟩ := HC.out j (by omega)
      have hcj : wr.cell? (a.add j) = some (.int .i64 (zs[j]?.getD 0)) := (HX.out.1.cell (by rw [add_block]; exact (hA a rfl).resolve_left (by omega))).trans hcell
      clear hcell
      obtain ⟨fn, tmps, assign, body, hy, hR⟩ := hY _ ⟨j, hjl⟩ wr hJs (by rw [dn_length _ _ hk]; exact hlt)
      have e5 : dn zs.length (k + 1) = dn zs.length k ++ [⟨j, hjl⟩] := by rw [dn_succ _ _ hlt]; congr 3; omega
      have HE := Lib.hid e5
      dsimp only at hy
      clear hj e5 ej
      generalize hz : zs[j]?.getD 0 = z at *
      have HZ := Lib.hid hz
      clear hz
      gi_wp2
      refine hR.mono ?_
      rintro e W3 (⟨rfl, hJ3, hk3⟩ | ⟨rfl, hJx3⟩)
      · gi_wp2
        go_roundw
        case rel => exact ⟨k + 1, by omega, by have := HJ.out; first | (simp; done) | (simp; omega), by rw [HE.out]; exact hJ3, HX.out.t hk3⟩
        case measure => first | (simp [intOf]; done) | (simp [intOf]; have := HJ.out; omega)
      · gi_wp2
        refine bodyPost_ret (results_none rfl _ _ _) rfl ?_
        exact ⟨⟨_, rfl⟩, .inr ⟨_, ⟨k, by omega, HE.out.symm⟩, hJx3⟩⟩
    · obtain rfl : k = zs.length := by omega
      gi_wp2
      go_end0
      exact ⟨⟨_, rfl⟩, .inl ⟨_, rfl, hJs⟩⟩

set_option maxHeartbeats 1000000 in
/-- down: the slice value is boxed; the function value captures the box. -/
theorem down_in (F : Fence) (n : Nat) (h5 : F.fn 223) (hro : F.round = none) (a : Option Addr) (len cap : Nat) (w : World) :
    CallsIn F n Tryz.prog 223 #[.slice a len cap] w fun e w' => e = .returned (.func (.func 239) #[] #[.pointer (some ⟨w.heap.size, 0, none⟩)]) ∧ w' = w.alloc (.cells #[.slice a len cap] 134) := by
  refine callsIn_of_wp Tryz.func223 rfl h5 ?_ hro
  simp only [Tryz.ntmps223, List.size_toArray, List.length_cons, List.length_nil, Nat.reduceAdd, Nat.reduceSub, Array.replicate_succ, Array.replicate_zero, List.push_toArray, List.append_toArray, List.nil_append, List.cons_append]
  gi_wp2
  go_ret
  exact ⟨rfl, rfl⟩

theorem down_stops (F : Fence) (n : Nat) (h7 : F.fn 239) (hro : F.round = none) (hn : 1 ≤ n) (Bs n₀ : Nat) (A : Option Addr) (cap : Nat) (zs : List Int) (hreach : zs.length ≤ 9223372036854775807) (w : World) (hBs : Bs < w.heap.size)
    (hA : ∀ a, A = some a → zs.length = 0 ∨ a.block < n₀) (hn₀ : n₀ ≤ w.heap.size) (hc : w.cell? ⟨Bs, 0, none⟩ = some (.slice A zs.length cap)) (hI : Row .i64 w A zs) :
    SeqStopsK F n Tryz.prog 239 #[.pointer (some ⟨Bs, 0, none⟩)] (fun x : Ix zs.length => #[Value.int .i64 ((x.1 : Nat) : Int), Value.int .i64 (zs[x.1]?.getD 0)]) (Kd n₀ Bs) (fun ys => ys = dn zs.length zs.length) (fun pre => ∃ k, k < zs.length ∧ pre = dn zs.length (k + 1)) zs.length w := fun l J Jx W hW _ _ hY h0 =>
  down1_in F n h7 hro hn l Bs n₀ A cap zs hreach J Jx W hA hY ((hW.cell (p := ⟨Bs, 0, none⟩) hBs).trans hc) (hI.below hW) h0

theorem sgn_lt {a : Int} (h : a < 0) : sgn a = -1 := by simp [sgn, h]
theorem sgn_gt {a : Int} (h : 0 < a) : sgn a = 1 := by unfold sgn; rw [if_neg (by omega), if_pos h]
theorem sgn_zero : sgn 0 = 0 := by simp [sgn]

/-- Numbers with as many digits are ordered by the first digits that differ. -/
theorem cmp_top {b : Nat} (hb : 2 ≤ b) {m n : Nat} (hlen : (dg b m).length = (dg b n).length) (i : Nat) (hi : i < (dg b m).length)
    (heq : ∀ j, i < j → j < (dg b m).length → (dg b m)[j]?.getD 0 = (dg b n)[j]?.getD 0) (hne : (dg b m)[i]?.getD 0 ≠ (dg b n)[i]?.getD 0) :
    sgn ((dg b m)[i]?.getD 0 - (dg b n)[i]?.getD 0) = sgn ((m : Int) - n) := by
  have hd : (dg b m).drop (i + 1) = (dg b n).drop (i + 1) := by
    apply List.ext_getElem
    · simp [hlen]
    · intro j h1 h2
      simp at h1 h2
      have := heq (i + 1 + j) (by omega) (by omega)
      rw [List.getElem?_eq_getElem (by omega), List.getElem?_eq_getElem (by omega)] at this
      simpa using this
  have v1 := val_dg hb m
  have v2 := val_dg hb n
  simp only [← List.getD_eq_getElem?_getD] at hne ⊢
  rcases Int.lt_trichotomy ((dg b m).getD i 0) ((dg b n).getD i 0) with h | h | h
  · have := val_lt_of_top (dg_inR hb m) (dg_inR hb n) hlen i hi hd h
    rw [sgn_lt (by omega), sgn_lt (by omega)]
  · exact absurd h hne
  · have := val_lt_of_top (dg_inR hb n) (dg_inR hb m) hlen.symm i (by omega) hd.symm h
    rw [sgn_gt (by omega), sgn_gt (by omega)]

theorem cmp_len {b : Nat} (hb : 2 ≤ b) {m n : Nat} (hne : (dg b m).length ≠ (dg b n).length) : sgn (((dg b m).length : Int) - (dg b n).length) = sgn ((m : Int) - n) := by
  rcases Nat.lt_or_gt_of_ne hne with h | h
  · have : m < n := by
      rcases Nat.lt_or_ge m n with h' | h'
      · exact h'
      · have := dg_length_mono hb h'; omega
    rw [sgn_lt (by omega), sgn_lt (by omega)]
  · have : n < m := by
      rcases Nat.lt_or_ge n m with h' | h'
      · exact h'
      · have := dg_length_mono hb h'; omega
    rw [sgn_gt (by omega), sgn_gt (by omega)]

theorem cmp_eq {b : Nat} (hb : 2 ≤ b) {m n : Nat} (hlen : (dg b m).length = (dg b n).length) (heq : ∀ j, j < (dg b m).length → (dg b m)[j]?.getD 0 = (dg b n)[j]?.getD 0) : m = n := by
  refine dg_inj hb (List.ext_getElem hlen fun j h1 h2 => ?_)
  have := heq j h1
  rw [List.getElem?_eq_getElem h1, List.getElem?_eq_getElem h2] at this
  simpa using this

theorem mem_dn {L k : Nat} {i : Ix L} : i ∈ dn L k ↔ ∃ j, j < k ∧ j < L ∧ i.1 = L - 1 - j := by
  simp only [dn, List.mem_map, List.mem_attach, true_and, Subtype.exists, List.mem_range]
  constructor
  · rintro ⟨j, hj, rfl⟩
    exact ⟨j, by omega, by omega, rfl⟩
  · rintro ⟨j, h1, h2, h3⟩
    exact ⟨j, by omega, Subtype.ext h3.symm⟩

set_option maxRecDepth 100000 in
set_option maxHeartbeats 4000000 in
theorem compare_in (v1 v2 : Value) (m n : Nat) (w : World) (h1 : Dg 1000000000 w v1 m) (h2 : Dg 1000000000 w v2 n) :
    CallsIn Fence.wide 6 Tryz.prog 191 #[v1, v2] w fun e w' => e = .returned (.int .i64 (sgn ((m : Int) - n))) ∧ Below w.heap.size w w' := by
  obtain ⟨A1, c1, rfl, hc1, hm1, hr1⟩ := h1
  obtain ⟨A2, c2, rfl, hc2, hm2, hr2⟩ := h2
  have HR1 := Lib.hid hr1
  have HR2 := Lib.hid hr2
  have CL := Lib.hid (@cmp_len 1000000000 (by decide) m n)
  have CT := Lib.hid (@cmp_top 1000000000 (by decide) m n)
  have CE := Lib.hid (@cmp_eq 1000000000 (by decide) m n)
  have hAb : ∀ a, A1 = some a → (dg 1000000000 m).length = 0 ∨ a.block < w.heap.size := fun a ha => by
    rcases Nat.eq_zero_or_pos (dg 1000000000 m).length with h | h
    · exact .inl h
    · obtain ⟨a', e', hc'⟩ := hr1 0 h
      rw [ha] at e'; cases e'
      exact .inr (by have := World.block_lt_of_cell? w _ hc'; rwa [add_block] at this)
  have hbd : ∀ i, i < (dg 1000000000 m).length → ∀ z y, (dg 1000000000 m)[i]?.getD 0 = z → (dg 1000000000 n)[i]?.getD 0 = y → -1000000000 ≤ z - y ∧ z - y ≤ 1000000000 := fun i _ z y hz hy => by
    have b1 := (dg_inR (b := 1000000000) (by decide) m).at_ (by decide) i
    have b2 := (dg_inR (b := 1000000000) (by decide) n).at_ (by decide) i
    rw [List.getD_eq_getElem?_getD] at b1 b2
    rw [hz] at b1; rw [hy] at b2; omega
  clear hr1 hr2
  have HAB := Lib.hid hAb
  have HBD := Lib.hid hbd
  clear hAb hbd
  generalize dg 1000000000 m = p at *
  generalize dg 1000000000 n = q at *
  by_cases hlen : p.length = q.length
  · have HLEN := Lib.hid hlen
    have hlb : ((p.length : Int) != (q.length : Int)) = false := by simp [hlen]
    refine callsIn_of_wp_marks Tryz.func191 rfl trivial ?_ rfl
    simp only [Tryz.ntmps191, List.size_toArray, List.length_cons, List.length_nil, Nat.reduceAdd, Nat.reduceSub, Array.replicate_succ, Array.replicate_zero, List.push_toArray, List.append_toArray, List.nil_append, List.cons_append]
    clear hlen
    gi_wp2_with (refine ⟨trivial, ?_⟩; gi_at_call 223; refine (down_in Fence.wide (6 - 1) trivial rfl _ _ _ _).mono ?_; rintro e w' ⟨rfl, rfl⟩)
    obtain ⟨W, hW, k0, k1, k2, f0, f1, f2, hbel, hsz⟩ := boxes3 w #[.slice A2 q.length c2] #[.int .i64 0] #[.slice A1 p.length c1] 134 3 134
    rw [hW]
    have c0 : W.cell? ⟨w.heap.size, 0, none⟩ = some (.slice A2 q.length c2) := k0 0
    have c1_ : W.cell? ⟨w.heap.size + 1, 0, none⟩ = some (.int .i64 0) := k1 0
    have c2_ : W.cell? ⟨w.heap.size + 1 + 1, 0, none⟩ = some (.slice A1 p.length c1) := k2 0
    have f1_ : W.frozen? ⟨w.heap.size + 1, 0, none⟩ = false := f1 0
    clear k0 k1 k2 f0 f1 f2
    refine wpIn_rangeFunc_ownF rfl (by decide) (gf := 239) (lb := #[.pointer (some ⟨w.heap.size + 1 + 1, 0, none⟩)]) rfl trivial (enters_of Tryz.func239 (by kernel_rfl) rfl)
      (down_stops Fence.wide (6 - 1) trivial rfl (by decide) (w.heap.size + 1 + 1) w.heap.size A1 c1 p (by omega) W (by rw [hsz]; omega) (fun a ha => ?hA) (by rw [hsz]; omega) c2_ (HR1.out.below hbel.to)) Kd.t (Kd.b (by rw [hsz]; omega) (by rw [hsz]; omega)) (Below.refl _ _) (fun _ => rfl)
      (fun pre W' => ((∀ i ∈ pre, p[i.1]?.getD 0 = q[i.1]?.getD 0) ∧ W'.cell? ⟨w.heap.size, 0, none⟩ = some (.slice A2 q.length c2) ∧ W'.cell? ⟨w.heap.size + 1, 0, none⟩ = some (.int .i64 0) ∧ W'.frozen? ⟨w.heap.size + 1, 0, none⟩ = false) ∧ Below w.heap.size w W')
      (fun c pre W' => (c = .ret ∧ ∃ ini last, pre = ini ++ [last] ∧ (∀ i ∈ ini, p[i.1]?.getD 0 = q[i.1]?.getD 0) ∧ p[last.1]?.getD 0 ≠ q[last.1]?.getD 0 ∧ W'.cell? ⟨w.heap.size + 1, 0, none⟩ = some (.int .i64 (sgn (p[last.1]?.getD 0 - q[last.1]?.getD 0)))) ∧ Below w.heap.size w W')
      (OwnFrom.and (Own.from (fun s X Y row hs hg hr => ⟨hs.1, cell_kept hs.2.1 hg hr, cell_kept hs.2.2.1 hg hr, (frozen_kept hs.2.2.1 hg hr).trans hs.2.2.2⟩) _) (ownFrom_below (Nat.le_refl _) (by rw [hsz]; omega)))
      (fun c => OwnFrom.and (Own.from (fun s X Y row hs hg hr => by obtain ⟨hc, ini, last, e1, e2, e3, e4⟩ := hs; exact ⟨hc, ini, last, e1, e2, e3, cell_kept e4 hg hr⟩) _) (ownFrom_below (Nat.le_refl _) (by rw [hsz]; omega)))
      ⟨⟨by simp, c0, c1_, f1_⟩, hbel.to⟩
      (fun x => { tmps := (.slice A1 p.length c1 :: .slice A2 q.length c2 :: undef :: .pointer (some ⟨w.heap.size, 0, none⟩) :: .pointer (some ⟨w.heap.size + 1, 0, none⟩) :: .int .i64 ((x.1 : Nat) : Int) :: .int .i64 (p[x.1]?.getD 0) :: .slice A1 p.length c1 :: .int .i64 p.length :: .slice A2 q.length c2 :: .int .i64 q.length :: .bool false :: undef :: undef :: undef :: undef :: undef :: undef :: .slice A1 p.length c1 :: .func (.func 239) #[] #[.pointer (some ⟨w.heap.size + 1 + 1, 0, none⟩)] :: .int .i64 ((x.1 : Nat) : Int) :: .int .i64 (p[x.1]?.getD 0) :: undef :: undef :: undef :: undef :: undef :: undef :: undef :: undef :: undef :: undef :: undef :: undef :: undef :: []).toArray, defers := [] }) ?assign ?body ?done ?stop
    case hA => exact HAB.out a ha
    case assign =>
      intro l x W K hK
      gi_wp2
      exact hK
    case body =>
      rintro l pre x W' ⟨⟨hp, hq, hcr, hfr⟩, hB⟩ hpl
      have hqx := HR2.out.below hB
      obtain ⟨a2, ha2, hc2⟩ := hqx x.1 (by rw [← HLEN.out]; exact x.2)
      have hxq : (x.1 : Int) < q.length := by have := x.2; have := HLEN.out; omega
      obtain ⟨xi, hxi⟩ := x
      dsimp only at *
      subst ha2
      obtain ⟨y, hy⟩ : ∃ y, q[xi]?.getD 0 = y := ⟨_, rfl⟩
      obtain ⟨z, hz⟩ : ∃ z, p[xi]?.getD 0 = z := ⟨_, rfl⟩
      rw [hy] at hc2
      rw [hz]
      have HY := Lib.hid hy
      have HZ := Lib.hid hz
      have HPP := Lib.hid hp
      have HBB := Lib.hid hB
      clear hy hz hp hB
      by_cases hzy : z = y
      · have hb : (z != y) = false := by simp [hzy]
        have HZY := Lib.hid hzy
        clear hzy
        gi_wp2_with fail
        exact ⟨KeepsOthers.refl _, ⟨Below.refl _ _, rfl⟩, ⟨fun i hi => (List.mem_append.1 hi).elim (HPP.out i) (fun e => by simp at e; subst e; rw [HZ.out, HY.out, HZY.out]), hq, hcr, hfr⟩, HBB.out⟩
      · have hb : (z != y) = true := by simp [hzy]
        have HZY := Lib.hid hzy
        have hzb : -1000000000 ≤ z - y ∧ z - y ≤ 1000000000 := HBD.out xi hxi z y HZ.out HY.out
        obtain ⟨hzb1, hzb2⟩ := hzb
        clear hzy
        gi_wp2_with (refine ⟨trivial, ?_⟩; gi_at_call 193; refine (CallsIn.inRound l (callsIn_wide.2 (sign_c _ _))).mono ?_; rintro e w' ⟨rfl, rfl⟩)
        exact ⟨KeepsOthers.setCell _ _ _, ⟨rfl, pre, ⟨xi, hxi⟩, rfl, HPP.out, by simp only []; rw [HZ.out, HY.out]; exact HZY.out, by simp only []; rw [HZ.out, HY.out]; exact set_same _ hcr⟩, HBB.out.setCell (p := ⟨w.heap.size + 1, 0, none⟩) (by simp) _⟩
    case done =>
      rintro D ys W' hD rfl ⟨⟨hne, hq, hcr, hfr⟩, hB⟩ hK
      have HK := Lib.hid hK
      have HNE := Lib.hid hne
      have HBB := Lib.hid hB
      clear hK hne hB
      gi_wp2
      have hK' := (KeepsOthers.setCell W' ⟨w.heap.size + 1, 0, none⟩ (.int .i64 0)).same D _ HK.out rfl
      refine ⟨by simp, .inl ⟨_, _, rfl, run_takeDeferred hK', ?_⟩⟩
      have hc5 := cell_kept (set_same (.int .i64 0) hcr) (grownBy_putObj' _ D (.deferred none)) (fun r e => by cases e; exact ⟨_, hK', rfl⟩)
      have emn : m = n := CE.out HLEN.out (fun j hj => HNE.out ⟨j, hj⟩ (mem_dn.2 ⟨p.length - 1 - j, by omega, by omega, by simp; omega⟩))
      refine ⟨.int .i64 0, ?_, ⟨by rw [emn, Int.sub_self, sgn_zero], (HBB.out.setCell (p := ⟨w.heap.size + 1, 0, none⟩) (by simp) _).trans (belowK_b (w := w) (Nat.le_refl _) _ D _ _ (by omega) hK' rfl rfl)⟩⟩
      simp [results, Tryz.f191, go_sem, hc5]
    case stop =>
      rintro D c pre W' hD ⟨k, hk, rfl⟩ ⟨⟨rfl, ini, last, e1, e2, e3, hcr⟩, hB⟩ hK
      have HK := Lib.hid hK
      have HBB := Lib.hid hB
      rw [dn_succ _ _ hk] at e1
      obtain ⟨rfl, e5⟩ := List.append_inj' e1 rfl
      have hkk : p.length - 1 - k < p.length := by omega
      have e6 : last = ⟨p.length - 1 - k, hkk⟩ := by simpa using e5.symm
      subst e6
      have hs := CT.out HLEN.out (p.length - 1 - k) (by omega) (fun j h1 h2 => e2 ⟨j, h2⟩ (mem_dn.2 ⟨p.length - 1 - j, by omega, by omega, by simp; omega⟩)) e3
      rw [hs] at hcr
      have HS := Lib.hid hs
      clear hK hB e1 e2 e3 e5 hs
      gi_wp2
      refine ⟨by simp, .inl ⟨_, _, rfl, run_takeDeferred HK.out, ?_⟩⟩
      have hc5 := cell_kept hcr (grownBy_putObj' _ D (.deferred none)) (fun r e => by cases e; exact ⟨_, HK.out, rfl⟩)
      refine ⟨.int .i64 (sgn ((m : Int) - n)), ?_, rfl, HBB.out.trans (belowK_b (w := w) (Nat.le_refl _) W' D _ _ (by omega) HK.out rfl rfl)⟩
      simp [results, Tryz.f191, go_sem, hc5]
  · have CLL := Lib.hid (CL.out hlen)
    have hlb : ((p.length : Int) != (q.length : Int)) = true := by simp; omega
    refine callsIn_wide.2 ?_
    clear hlen
    go_enter Tryz.func191, Tryz.ntmps191
    go_wp2_with (go_at_call 193; refine (sign_c _ _).mono ?_; rintro e w' ⟨rfl, rfl⟩)
    refine bodyPost_ret (v := .int .i64 (sgn ((p.length : Int) - q.length))) (by simp [results, Tryz.results191, go_sem]) rfl ?_
    exact ⟨by rw [CLL.out], (by repeat (first | exact Below.refl _ _ | exact HB.out | (refine Below.alloc ?_ (by first | (simp; done) | (simp; omega)) _) | (refine Below.setCell ?_ (by first | (simp; done) | (simp; omega)) _) | refine Below.drew ?_ | refine below_drewN ?_ _))⟩

theorem compare_c (v1 v2 : Value) (m n : Nat) (w : World) (h1 : Dg 1000000000 w v1 m) (h2 : Dg 1000000000 w v2 n) :
    Calls Tryz.prog 191 #[v1, v2] w fun e w' => e = .returned (.int .i64 (sgn ((m : Int) - n))) ∧ Below w.heap.size w w' :=
  callsIn_wide.1 (compare_in v1 v2 m n w h1 h2)

end Go.Proofs.YtekbfommnmikbaaGreatDoor

namespace Go.Proofs.YtekbfommnmikbaaGreatDoor
set_option linter.unusedVariables false
set_option linter.unusedSimpArgs false
open Go.RowKit Go.Shelf
attribute [local go_sem] Oper.semAt_some

/-- The rest and the quotient's digits, when some digits have been taken. -/
def ost (n : Nat) (p : List Int) : List (Ix p.length) → Nat × List Int :=
  List.foldl (fun s x => (((p[x.1]?.getD 0).toNat + 1000000000 * s.1) % n, s.2.set x.1 ((((p[x.1]?.getD 0).toNat + 1000000000 * s.1) / n : Nat) : Int))) (0, List.replicate p.length 0)

theorem ost_snoc (n : Nat) (p : List Int) (pre : List (Ix p.length)) (x : Ix p.length) :
    ost n p (pre ++ [x]) = (((p[x.1]?.getD 0).toNat + 1000000000 * (ost n p pre).1) % n, (ost n p pre).2.set x.1 ((((p[x.1]?.getD 0).toNat + 1000000000 * (ost n p pre).1) / n : Nat) : Int)) := by
  simp [ost]
theorem ost_nil (n : Nat) (p : List Int) : ost n p [] = (0, List.replicate p.length 0) := rfl
theorem ost_len (n : Nat) (p : List Int) (pre : List (Ix p.length)) : (ost n p pre).2.length = p.length := by
  have key : ∀ (l : List (Ix p.length)) (s : Nat × List Int), s.2.length = p.length → (List.foldl (fun s x => (((p[x.1]?.getD 0).toNat + 1000000000 * s.1) % n, s.2.set x.1 ((((p[x.1]?.getD 0).toNat + 1000000000 * s.1) / n : Nat) : Int))) s l).2.length = p.length := by
    intro l
    induction l with
    | nil => intro s h; exact h
    | cons x l ih => intro s h; exact ih _ (by simpa using h)
  exact key pre _ (by simp)

/-- A property that each step keeps. -/
theorem ost_ind {n : Nat} {p : List Int} (R : Nat × List Int → Prop) (h0 : R (0, List.replicate p.length 0))
    (hs : ∀ s x, R s → R (((p[(x : Ix p.length).1]?.getD 0).toNat + 1000000000 * s.1) % n, s.2.set x.1 ((((p[x.1]?.getD 0).toNat + 1000000000 * s.1) / n : Nat) : Int))) (pre : List (Ix p.length)) : R (ost n p pre) := by
  have key : ∀ (l : List (Ix p.length)) (s : Nat × List Int), R s → R (List.foldl (fun s x => (((p[x.1]?.getD 0).toNat + 1000000000 * s.1) % n, s.2.set x.1 ((((p[x.1]?.getD 0).toNat + 1000000000 * s.1) / n : Nat) : Int))) s l) := by
    intro l
    induction l with
    | nil => intro s h; exact h
    | cons x l ih => intro s h; exact ih _ (hs s x h)
  exact key pre _ h0

theorem ost_lt {n : Nat} (hn : 0 < n) {p : List Int} (pre : List (Ix p.length)) : (ost n p pre).1 < n :=
  ost_ind (fun s => s.1 < n) hn (fun s x _ => Nat.mod_lt _ hn) pre

theorem digit_lt {n r d : Nat} (hr : r < n) (hd : d < 1000000000) : (d + 1000000000 * r) / n < 1000000000 := by
  rw [Nat.div_lt_iff_lt_mul (by omega)]
  have : 1000000000 * (r + 1) ≤ 1000000000 * n := Nat.mul_le_mul_left _ (by omega)
  omega

theorem ost_inR {n : Nat} (hn : 0 < n) {p : List Int} (hp : InR 1000000000 p) (pre : List (Ix p.length)) : InR 1000000000 (ost n p pre).2 := by
  have := ost_ind (n := n) (p := p) (fun s => s.1 < n ∧ InR 1000000000 s.2) ⟨hn, InR.replicate (by decide) _⟩ (fun s x h => ⟨Nat.mod_lt _ hn, by
    have b := hp.at_ (by decide) x.1
    rw [List.getD_eq_getElem?_getD] at b
    have c := digit_lt h.1 (d := (p[x.1]?.getD 0).toNat) (by omega)
    exact h.2.set _ (Int.natCast_nonneg _) (by exact_mod_cast c)⟩) pre
  exact this.2

theorem val_drop_set {l : List Int} {j k : Nat} (hj : j < k) (x : Int) : (l.set j x).drop k = l.drop k := by
  rw [List.drop_set_of_lt hj]

/-- When the first k digits from the top are taken: rest and quotient of what they are. -/
theorem ost_dn {n : Nat} (hn : 0 < n) {p : List Int} (hp : InR 1000000000 p) : ∀ k, k ≤ p.length →
    ∃ v : Nat, val 1000000000 (p.drop (p.length - k)) = (v : Int) ∧ (ost n p (dn p.length k)).1 = v % n ∧ val 1000000000 ((ost n p (dn p.length k)).2.drop (p.length - k)) = ((v / n : Nat) : Int) := by
  intro k
  induction k with
  | zero =>
    intro _
    refine ⟨0, ?_, ?_, ?_⟩
    · simp [val]
    · rw [dn_zero, ost_nil]; simp
    · rw [dn_zero, ost_nil]; simp [val]
  | succ k ih =>
    intro hk
    obtain ⟨v, h1, h2, h3⟩ := ih (by omega)
    have hlen := ost_len n p (dn p.length k)
    have e1 : p.length - (k + 1) + 1 = p.length - k := by omega
    obtain ⟨j, hj⟩ : ∃ j, j = p.length - (k + 1) := ⟨_, rfl⟩
    have ej : p.length - 1 - k = j := by omega
    have b := hp.at_ (by decide) j
    obtain ⟨d, hd⟩ := Int.eq_ofNat_of_zero_le b.1
    have hdd : p[j]?.getD 0 = (d : Int) := by rw [← List.getD_eq_getElem?_getD]; exact hd
    refine ⟨d + 1000000000 * v, ?_, ?_, ?_⟩
    · rw [← hj, val_drop _ _ _ (by omega), show j + 1 = p.length - k from by omega, h1, hd]
      simp
    · rw [dn_succ p.length k (by omega), ost_snoc, h2]
      simp only [ej, hdd, Int.toNat_natCast]
      have e := Nat.mod_add_div v n
      have : d + 1000000000 * v = d + 1000000000 * (v % n) + n * (1000000000 * (v / n)) := by
        conv => lhs; rw [← e]
        rw [Nat.mul_add, ← Nat.add_assoc, Nat.mul_left_comm]
      rw [this, Nat.add_mul_mod_self_left]
    · rw [dn_succ p.length k (by omega), ost_snoc, h2]
      simp only [ej, hdd, Int.toNat_natCast]
      rw [← hj, val_drop _ _ _ (by simp [hlen]; omega), getD_set _ _ _ _ (by omega), if_pos rfl, val_drop_set (by omega), show j + 1 = p.length - k from by omega, h3]
      have e := Nat.mod_add_div v n
      have : d + 1000000000 * v = d + 1000000000 * (v % n) + n * (1000000000 * (v / n)) := by
        conv => lhs; rw [← e]
        rw [Nat.mul_add, ← Nat.add_assoc, Nat.mul_left_comm]
      rw [this, Nat.add_mul_div_left _ _ hn]
      simp


/-- What a round keeps. -/
structure Ov (B Bs : Nat) (W W' : World) : Prop where
  b : Below B W W'
  ko : KeepsOthers W W'
  bx : W'.heap[Bs]? = W.heap[Bs]?
  lt : B ≤ W.heap.size ∧ Bs < W.heap.size
theorem keepsOthers_below {W W' : World} (h : Below W.heap.size W W') : KeepsOthers W W' :=
  ⟨h.size, fun k o hk _ => (h.block k (Array.getElem?_eq_some_iff.1 hk).1).trans hk⟩
theorem Ov.refl {B Bs : Nat} {W : World} (h : B ≤ W.heap.size) (h' : Bs < W.heap.size) : Ov B Bs W W := ⟨Below.refl _ _, KeepsOthers.refl _, rfl, h, h'⟩
theorem Ov.call {B Bs : Nat} {W W1 W2 : World} (h : Ov B Bs W W1) (k : Below W1.heap.size W1 W2) : Ov B Bs W W2 :=
  ⟨h.b.trans (k.mono (Nat.le_trans h.lt.1 h.b.size)), h.ko.trans (keepsOthers_below k), (k.block Bs (Nat.lt_of_lt_of_le h.lt.2 h.b.size)).trans h.bx, h.lt⟩
theorem Ov.drew {B Bs : Nat} {W W1 : World} (h : Ov B Bs W W1) : Ov B Bs W W1.drew := h.call (Below.refl _ _).drew
theorem Ov.alloc {B Bs : Nat} {W W1 : World} (h : Ov B Bs W W1) (o : Obj) : Ov B Bs W (W1.alloc o) := h.call ((Below.refl _ _).alloc (Nat.le_refl _) o)
theorem Ov.set {B Bs : Nat} {W W1 : World} (h : Ov B Bs W W1) {a : Addr} (v : Value) (h1 : B ≤ a.block) (h2 : a.block ≠ Bs) : Ov B Bs W (W1.setCell a v) :=
  ⟨h.b.setCell h1 v, h.ko.trans (KeepsOthers.setCell _ _ _), (heap_setCell_other W1 a Bs v (fun e => h2 e.symm)).trans h.bx, h.lt⟩
theorem Ov.kd {B Bs : Nat} {W W1 : World} (h : Ov B Bs W W1) : Kd B Bs W W1 := ⟨h.b, h.bx⟩

theorem row_kept {k : IntKind} {W W' : World} {A : Option Addr} {xs : List Int} {row : Option Nat} (h : Row k W A xs) (hg : W.grownBy W' row) (hr : ∀ r, row = some r → ∃ o : Obj, W.heap[r]? = some o ∧ o.isCells = false) : Row k W' A xs := by
  intro j hj
  obtain ⟨a, e, hc⟩ := h j hj
  exact ⟨a, e, cell_kept hc hg hr⟩
theorem dg_kept {b : Nat} {W W' : World} {v : Value} {n : Nat} {row : Option Nat} (h : Dg b W v n) (hg : W.grownBy W' row) (hr : ∀ r, row = some r → ∃ o : Obj, W.heap[r]? = some o ∧ o.isCells = false) : Dg b W' v n := by
  obtain ⟨A, c, e, h1, h2, h3⟩ := h
  exact ⟨A, c, e, h1, h2, row_kept h3 hg hr⟩
theorem own_kept {W W' : World} {base : Nat} {e : TypeId} {size : Nat} {v : Value} {n : Nat} {xs : List Value} {row : Option Nat} (h : W.ownsRow base e size v n xs) (hg : W.grownBy W' row) (hr : ∀ r, row = some r → ∃ o : Obj, W.heap[r]? = some o ∧ o.isCells = false) : W'.ownsRow base e size v n xs := by
  refine h.kept hg ?_
  rcases h.2 with ⟨rfl, _⟩ | ⟨g, cap, cur, rfl, _, hh, _⟩
  · exact .inl rfl
  · refine .inr fun e' => ?_
    obtain ⟨o, ho, hc⟩ := hr g e'.symm
    rw [hh] at ho; cases ho; cases hc
theorem own_below {w w' : World} {base : Nat} {e : TypeId} {size : Nat} {v : Value} {n : Nat} {xs : List Value} (h : w.ownsRow base e size v n xs) (hb : Below w.heap.size w w') : w'.ownsRow base e size v n xs := by
  rcases h.2 with ⟨rfl, h0⟩ | ⟨g, cap, cur, rfl, h1, hh, h2⟩
  · exact ⟨h.1, .inl ⟨rfl, h0⟩⟩
  · exact ⟨h.1, .inr ⟨g, cap, cur, rfl, h1, (hb.block g (Array.getElem?_eq_some_iff.1 hh).1).trans hh, h2⟩⟩

theorem len_shift {n t : Nat} (h : t < 1000000000 * n) : (dg 1000000000 t).length ≤ (dg 1000000000 n).length + 1 := by
  refine (dg_length_le (by decide) _ _).2 ?_
  have := (dg_length_le (b := 1000000000) (by decide) n (dg 1000000000 n).length).1 (Nat.le_refl _)
  rw [Nat.pow_succ]
  have := Nat.mul_lt_mul_of_pos_left this (show 0 < 1000000000 by decide)
  rw [Nat.mul_comm] at this
  omega

theorem run_append_none {P : Program} {w : World} (base : Nat) (t ty e : TypeId) (i : TypeInfo) (size : Nat) (ht : P.underlying t = some (.slice e)) (hi : P.info? e = some i)
    (v : Value) (n c : Nat) (xs : List Value) (hown : w.ownsRow base e size v n xs) :
    (Builtin.append_ #[t, t] ty #[v, .slice none 0 c]).run P w = .ok v w := by
  rcases hown.2 with ⟨rfl, rfl⟩ | ⟨g, cap, cur, rfl, _, _, hnc, _⟩
  · simp [Builtin.append_, run_underlying ht, sizeOf, typeInfo, hi, Builtin.lenOf, Builtin.firstCells]
  · simp [Builtin.append_, run_underlying ht, sizeOf, typeInfo, hi, Builtin.lenOf, Builtin.firstCells, hnc, storeCells]

/-- append of a row, nil or not, to a row of the call's own. -/
theorem append_rowIn {F : Fence} {rm : Nat} (w : World) {ops : Array Oper} {rest : List Oper} {o : Oper} {a : Act} {Q : Exit → Act → World → Prop}
    (hg : o.guard = none) (s x : Operand) (hop : o.op = Op.call { callee := Callee.builtin Builtin.append, args := #[s, x], argTypes := #[134, 134] })
    (base : Nat) (v : Value) (k : Nat) (ys : List Int) (hs : a.eval s = v) (hown : w.ownsRow base 3 1 v k (ys.map (Value.int .i64))) (A : Option Addr) (c : Nat) (xs : List Int) (hx : a.eval x = .slice A xs.length c) (hr : Row .i64 w A xs)
    (b1 : k + xs.length ≤ 10000000) (b3 : base ≤ w.heap.size)
    (hK : ∀ v' w', w'.ownsRow base 3 1 v' (k + xs.length) ((ys ++ xs).map (Value.int .i64)) → w.grownBy w' v.ownBlock → wpListIn F rm Tryz.prog ops Q rest (a.put o.dst v') w') :
    wpListIn F rm Tryz.prog ops Q (o :: rest) a w := by
  obtain ⟨i0, hi, hz0, hz1, hz2⟩ := info_parts info_int
  cases A with
  | none =>
    have hx0 : xs = [] := by
      cases xs with
      | nil => rfl
      | cons x xs => obtain ⟨a, e, _⟩ := hr 0 (by simp); cases e
    subst hx0
    refine wpListIn_plain hg fun K hK' => ?_
    have hrun := run_append_none (P := Tryz.prog) (w := w) base 134 o.type 3 i0 1 Tryz.underlying134 hi v k c _ hown
    unfold Oper.wpIn
    refine ⟨?_, ?_⟩
    · simp [Oper.about, hop, resolve, Target.leads, Sem.run_pure]
    · rw [Oper.semAt_plain F _ _ (by rw [hop]; intro c hc'; cases hc')]
      simp only [List.length_nil] at hx
      simp [execOp, hop, resolve, invoke, builtin, hs, hx, hrun, Result.andThen]
      refine hK' _ _ (hK v w (by simpa using hown) ⟨rfl, rfl, rfl, Nat.le_refl _, fun _ _ _ => rfl⟩)
  | some ad =>
    refine wpListIn_append_own w hg s x 134 hop base 3 i0 (.int .i64 0) 1 8 Tryz.underlying134 hi hz0 hz1 hz2 rfl (by decide) v k _ hs hown ad xs.length c (xs.map (Value.int .i64)) hx (by simp) ?_ ?_ (by unfold maxLen; omega) (by omega) b3 ?_
    · intro j u hj
      have hjn : j < xs.length := by
        have := (List.getElem?_eq_some_iff.1 hj).1
        simpa using this
      obtain ⟨a', e, hc⟩ := hr j hjn
      cases e
      rw [hc]
      rw [List.getElem?_map, List.getElem?_eq_getElem hjn] at hj
      rw [List.getElem?_eq_getElem hjn]
      exact hj
    · intro u hu; obtain ⟨x, _, rfl⟩ := List.mem_map.1 hu; rfl
    · intro v' w' h1 h2 _
      exact hK v' w' (by simpa using h1) h2

theorem Dg.zero {b : Nat} (hb : 2 ≤ b) (W : World) : Dg b W (.slice none 0 0) 0 := by
  unfold Dg
  rw [dg_zero]
  exact ⟨none, 0, rfl, Nat.le_refl _, Nat.zero_le _, Row.nil⟩

/-- What over returns. -/
def OverP (m n : Nat) (w : World) (e : Ending) (w' : World) : Prop :=
  ∃ u v, e = .returned (.tuple #[u, v]) ∧ Dg 1000000000 w' u (m / n) ∧ Dg 1000000000 w' v (m % n) ∧ FromB w.heap.size u ∧ FromB w.heap.size v ∧ Below w.heap.size w w'

set_option maxRecDepth 100000 in
set_option maxHeartbeats 4000000 in
theorem over_in (v1 v2 : Value) (m n : Nat) (w : World) (h1 : Dg 1000000000 w v1 m) (h2 : Dg 1000000000 w v2 n) (hn : 0 < n) (hml : (dg 1000000000 m).length ≤ 1000000) (hnl : (dg 1000000000 n).length ≤ 999999) :
    CallsIn Fence.wide 6 Tryz.prog 198 #[v1, v2] w (OverP m n w) := by
  obtain ⟨A1, c1, rfl, hc1, hm1, hr1⟩ := h1
  have H2 := Lib.hid h2
  obtain ⟨A2, c2, rfl, hc2, hm2, hr2⟩ := h2
  have HR1 := Lib.hid hr1
  have I1 := Lib.hid (dg_inR (b := 1000000000) (by decide) m)
  have V1 := Lib.hid (val_dg (b := 1000000000) (by decide) m)
  have hAb : ∀ a, A1 = some a → (dg 1000000000 m).length = 0 ∨ a.block < w.heap.size := fun a ha => by
    rcases Nat.eq_zero_or_pos (dg 1000000000 m).length with h | h
    · exact .inl h
    · obtain ⟨a', e', hc'⟩ := hr1 0 h
      rw [ha] at e'; cases e'
      exact .inr (by have := World.block_lt_of_cell? w _ hc'; rwa [add_block] at this)
  have HAB := Lib.hid hAb
  have HN := Lib.hid hn
  have HNL := Lib.hid hnl
  clear hr1 hr2 hAb hn hnl
  generalize dg 1000000000 m = p at *
  have hmk := make_int p.length (↑p.length) (by simp) (by omega)
  refine callsIn_of_wp_marks Tryz.func198 rfl trivial ?_ rfl
  simp only [Tryz.ntmps198, List.size_toArray, List.length_cons, List.length_nil, Nat.reduceAdd, Nat.reduceSub, Array.replicate_succ, Array.replicate_zero, List.push_toArray, List.append_toArray, List.nil_append, List.cons_append]
  gi_wp2_with (refine ⟨trivial, ?_⟩; gi_at_call 223; refine (down_in Fence.wide (6 - 1) trivial rfl _ _ _ _).mono ?_; rintro e w' ⟨rfl, rfl⟩)
  clear hmk
  have hown0 : (((((w.alloc (.cells #[.slice A2 (dg 1000000000 n).length c2] 134)).alloc (.cells #[.slice (some ⟨w.heap.size + 1 + 1 + 1, 0, none⟩) p.length p.length] 134)).alloc (.cells #[.slice none 0 0] 134)).alloc (.cells (madeCells #[.int .i64 0] p.length) 3)).alloc (.cells #[.slice A1 p.length c1] 134)).ownsRow (w.heap.size + 1 + 1 + 1) 3 1 (.slice (some ⟨w.heap.size + 1 + 1 + 1, 0, none⟩) p.length p.length) p.length ((List.replicate p.length (0 : Int)).map (Value.int .i64)) := by
    have h := own_zeros (((w.alloc (.cells #[.slice A2 (dg 1000000000 n).length c2] 134)).alloc (.cells #[.slice (some ⟨w.heap.size + 1 + 1 + 1, 0, none⟩) p.length p.length] 134)).alloc (.cells #[.slice none 0 0] 134)) p.length (by omega)
    exact World.ownsRow.alloc (by simpa using h) _
  obtain ⟨W, hW, k0, k1, k2, k3, k4, f0, f1, f2, f3, f4, hbel, hsz⟩ := boxes5 w #[.slice A2 (dg 1000000000 n).length c2] #[.slice (some ⟨w.heap.size + 1 + 1 + 1, 0, none⟩) p.length p.length] #[.slice none 0 0] (madeCells #[.int .i64 0] p.length) #[.slice A1 p.length c1] 134 134 134 3 134
  rw [hW] at hown0 ⊢
  have c0 : W.cell? ⟨w.heap.size, 0, none⟩ = some (.slice A2 (dg 1000000000 n).length c2) := k0 0
  have c1_ : W.cell? ⟨w.heap.size + 1, 0, none⟩ = some (.slice (some ⟨w.heap.size + 1 + 1 + 1, 0, none⟩) p.length p.length) := k1 0
  have c2_ : W.cell? ⟨w.heap.size + 1 + 1, 0, none⟩ = some (.slice none 0 0) := k2 0
  have c4_ : W.cell? ⟨w.heap.size + 1 + 1 + 1 + 1, 0, none⟩ = some (.slice A1 p.length c1) := k4 0
  have f1_ : W.frozen? ⟨w.heap.size + 1, 0, none⟩ = false := f1 0
  have f2_ : W.frozen? ⟨w.heap.size + 1 + 1, 0, none⟩ = false := f2 0
  clear k0 k1 k2 k3 k4 f0 f1 f2 f3 f4
  refine wpIn_rangeFunc_ownF rfl (by decide) (gf := 239) (lb := #[.pointer (some ⟨w.heap.size + 1 + 1 + 1 + 1, 0, none⟩)]) rfl trivial (enters_of Tryz.func239 (by kernel_rfl) rfl)
    (down_stops Fence.wide (6 - 1) trivial rfl (by decide) (w.heap.size + 1 + 1 + 1 + 1) w.heap.size A1 c1 p (by omega) W (by rw [hsz]; omega) (fun a ha => ?hA) (by rw [hsz]; omega) c4_ (HR1.out.below hbel.to)) Kd.t (Kd.b (by rw [hsz]; omega) (by rw [hsz]; omega)) (Below.refl _ _) (fun _ => rfl)
    (fun pre V => (V.cell? ⟨w.heap.size, 0, none⟩ = some (.slice A2 (dg 1000000000 n).length c2) ∧ V.cell? ⟨w.heap.size + 1, 0, none⟩ = some (.slice (some ⟨w.heap.size + 1 + 1 + 1, 0, none⟩) p.length p.length) ∧ V.frozen? ⟨w.heap.size + 1, 0, none⟩ = false ∧ V.frozen? ⟨w.heap.size + 1 + 1, 0, none⟩ = false
        ∧ V.ownsRow (w.heap.size + 1 + 1 + 1) 3 1 (.slice (some ⟨w.heap.size + 1 + 1 + 1, 0, none⟩) p.length p.length) p.length ((ost n p pre).2.map (Value.int .i64)) ∧ ∃ v, V.cell? ⟨w.heap.size + 1 + 1, 0, none⟩ = some v ∧ Dg 1000000000 V v (ost n p pre).1 ∧ FromB (w.heap.size + 5) v) ∧ (w.heap.size + 5 ≤ V.heap.size ∧ Below w.heap.size w V))
    (fun c pre V => False)
    (OwnFrom.and (Own.from (fun s X Y row hs hg hr => by
      obtain ⟨a1, a2, a3, a4, a5, v, a6, a7, a8⟩ := hs
      exact ⟨cell_kept a1 hg hr, cell_kept a2 hg hr, (frozen_kept a2 hg hr).trans a3, (frozen_kept a6 hg hr).trans a4, own_kept a5 hg hr, v, cell_kept a6 hg hr, dg_kept a7 hg hr, a8⟩) _) (OwnFrom.and (fun s X Y row hs hg hr => Nat.le_trans hs hg.size) (ownFrom_below (Nat.le_refl _) (by rw [hsz]; omega))))
    (fun c s X Y row hs _ _ => hs)
    ⟨⟨c0, c1_, f1_, f2_, hown0, _, c2_, Dg.zero (by decide) W, fun k hk => by cases hk⟩, by rw [hsz]; omega, hbel.to⟩
    (fun x => { tmps := (.slice A1 p.length c1 :: .slice A2 (dg 1000000000 n).length c2 :: undef :: .pointer (some ⟨w.heap.size, 0, none⟩) :: .pointer (some ⟨w.heap.size + 1, 0, none⟩) :: .pointer (some ⟨w.heap.size + 1 + 1, 0, none⟩) :: .int .i64 ((x.1 : Nat) : Int) :: .int .i64 (p[x.1]?.getD 0) :: undef :: undef :: undef :: .slice A1 p.length c1 :: .int .i64 p.length :: .slice (some ⟨w.heap.size + 1 + 1 + 1, 0, none⟩) p.length p.length :: .slice A1 p.length c1 :: .func (.func 239) #[] #[.pointer (some ⟨w.heap.size + 1 + 1 + 1 + 1, 0, none⟩)] :: .int .i64 ((x.1 : Nat) : Int) :: .int .i64 (p[x.1]?.getD 0) :: undef :: undef :: undef :: undef :: undef :: undef :: undef :: undef :: undef :: undef :: undef :: undef :: undef :: undef :: undef :: undef :: undef :: undef :: undef :: undef :: undef :: undef :: undef :: undef :: undef :: undef :: undef :: undef :: undef :: undef :: undef :: undef :: undef :: undef :: []).toArray, defers := [] }) ?assign ?body ?done ?stop
  case hA => exact HAB.out a ha
  case assign =>
    intro l x W K hK
    gi_wp2
    exact hK
  case stop => rintro _ _ _ _ _ _ h; exact h.elim
  case body =>
    rintro l pre x V ⟨⟨a1, a2, a3, a4, a5, v, a6, a7, a8⟩, a9, hB⟩ hpl
    obtain ⟨xi, hxi⟩ := x
    dsimp only at *
    have hr : (ost n p pre).1 < n := ost_lt HN.out pre
    obtain ⟨b0, b1⟩ := I1.out.at_ (by decide) xi
    rw [List.getD_eq_getElem?_getD] at b0 b1
    have ESN := Lib.hid (ost_snoc n p pre ⟨xi, hxi⟩)
    have IO := Lib.hid (ost_inR HN.out I1.out pre)
    dsimp only at ESN
    obtain ⟨d, hd⟩ := Int.eq_ofNat_of_zero_le b0
    rw [hd] at b1 ESN ⊢
    have hdt : d < 1000000000 := by omega
    obtain ⟨r, hr0⟩ : ∃ r, (ost n p pre).1 = r := ⟨_, rfl⟩
    obtain ⟨ql, hql⟩ : ∃ ql, (ost n p pre).2 = ql := ⟨_, rfl⟩
    rw [hr0] at hr ESN a7
    rw [hql] at ESN IO a5
    have HLQ := Lib.hid (show ql.length = p.length by rw [← hql]; exact ost_len n p pre)
    have hdn : 1000000000 * (r + 1) ≤ 1000000000 * n := Nat.mul_le_mul_left _ hr
    obtain ⟨t, ht⟩ : ∃ t, d + 1000000000 * r = t := ⟨_, rfl⟩
    have ht2 : t < 1000000000 * n := by omega
    have htl : (dg 1000000000 t).length ≤ 1000000 := Nat.le_trans (len_shift ht2) (Nat.succ_le_succ HNL.out)
    have hrl : (dg 1000000000 r).length ≤ 999999 := Nat.le_trans (dg_length_mono (by decide) (Nat.le_of_lt hr)) HNL.out
    have htv : val 1000000000 ((d : Int) :: dg 1000000000 r) = (t : Int) := by rw [val_cons, val_dg (by decide), ← ht]; simp
    have htr : InR 1000000000 ((d : Int) :: dg 1000000000 r) := (dg_inR (by decide) r).cons (by omega) b1
    have HT := Lib.hid htv
    have HTR := Lib.hid htr
    have HTE := Lib.hid ht
    have HD := Lib.hid hd
    have HRN := Lib.hid hr
    have HT2 := Lib.hid ht2
    have HXI := Lib.hid hxi
    clear hr0 hql hd hdn htv htr b0 hr b1 hdt hpl ht ht2
    obtain ⟨A', c', rfl, hc1', hm1', hr1'⟩ := a7
    have HR' := Lib.hid hr1'
    clear hr1'
    have HA5 := Lib.hid a5
    have HBB := Lib.hid hB
    clear a5 hB
    have a6' : (V.alloc (.cells #[.int .i64 (d : Int)] 3)).cell? ⟨w.heap.size + 1 + 1, 0, none⟩ = some (.slice A' (dg 1000000000 r).length c') := keep_cell ((Below.refl _ V).alloc (Nat.le_refl _) _) a6
    clear hW hown0 c0 c1_ c2_ c4_ f1_ f2_
    have XX := Lib.hid (World.ownsRow_lit (e := 3) (base := V.heap.size) (size := 1) V #[.int .i64 (d : Int)] 1 (Nat.le_refl _) (by unfold maxLen; omega) (by simp))
    have YY := Lib.hid (HR'.out.alloc (.cells #[.int .i64 (d : Int)] 3))
    gi_wp2_with (first
      | (gi_at_builtin; refine append_rowIn _ rfl _ _ rfl V.heap.size (.slice (some ⟨V.heap.size, 0, none⟩) 1 1) 1 [(d : Int)] rfl XX.out A' c' (dg 1000000000 r) rfl YY.out (by omega) (by simp) ?_; intro v' w1 hown1 hgrow1; obtain ⟨A3, c3, rfl, hl3, hm3, hr3, hn3⟩ := own_row hown1; have hb1 : Below V.heap.size V w1 := ((Below.refl _ V).alloc (Nat.le_refl _) _).grown hgrow1 (by simp) (by intro k hk; simp [Value.ownBlock] at hk; omega); have hb1o := own_below HA5.out hb1; have ck0 := keep_cell hb1 a1; have ck1 := keep_cell hb1 a2; have ck2 := keep_cell hb1 a6; have fk1 := keep_free' hb1 a2 a3; have fk2 := keep_free' hb1 a6 a4; have hfr3 := own_from hown1; have HR3 := Lib.hid hr3; have HB1 := Lib.hid hb1; have HOW1 := Lib.hid hb1o; have HFR3 := Lib.hid hfr3; clear hr3 hb1 hb1o hfr3 hgrow1 hown1 hn3)
      | (refine ⟨trivial, ?_⟩; gi_at_call 222; refine (CallsIn.inRound l (callsIn_wide.2 (cut_c A3 c3 ((d : Int) :: dg 1000000000 r) _ HR3.out hl3 (by unfold maxLen at hm3; omega)))).mono ?_; intro e w' hcut; obtain ⟨rfl, v3, rfl, hdg, hblk⟩ := cut_dg (b := 1000000000) (by decide) HR3.out hl3 (by unfold maxLen at hm3; omega) HTR.out HT.out hcut; have HDG := Lib.hid hdg; obtain ⟨A4, c4, rfl, hl4, hm4, hr4⟩ := hdg; have HFB := Lib.hid (show FromB V.heap.size (.slice A4 (dg 1000000000 t).length c4) from fun g hg => by obtain ⟨a, rfl, rfl⟩ := hblk g hg; exact HFR3.out _ rfl); clear hr4 hblk hcut hl3 hm3)
      | fail)
    obtain ⟨V2, hV2⟩ : ∃ V2, w1.setCell ⟨w.heap.size + 1 + 1, 0, none⟩ (.slice A4 (dg 1000000000 t).length c4) = V2 := ⟨_, rfl⟩
    rw [hV2]
    have hVw1 := HB1.out.size
    have q0 : V2.cell? ⟨w.heap.size, 0, none⟩ = some (.slice A2 (dg 1000000000 n).length c2) := by subst hV2; exact set_far _ (by first | (simp; done) | (simp; omega)) ck0
    have q1 : V2.cell? ⟨w.heap.size + 1, 0, none⟩ = some (.slice (some ⟨w.heap.size + 1 + 1 + 1, 0, none⟩) p.length p.length) := by subst hV2; exact set_far _ (by simp) ck1
    have q2 : V2.cell? ⟨w.heap.size + 1 + 1, 0, none⟩ = some (.slice A4 (dg 1000000000 t).length c4) := by subst hV2; exact set_same _ ck2
    have g1 : V2.frozen? ⟨w.heap.size + 1, 0, none⟩ = false := by subst hV2; simpa using fk1
    have g2 : V2.frozen? ⟨w.heap.size + 1 + 1, 0, none⟩ = false := by subst hV2; simpa using fk2
    have HOW2 : Hid (V2.ownsRow (w.heap.size + 1 + 1 + 1) 3 1 (.slice (some ⟨w.heap.size + 1 + 1 + 1, 0, none⟩) p.length p.length) p.length (ql.map (Value.int .i64))) := by subst hV2; exact own_setCell_other HOW1.out _ _ (by simp [Value.ownBlock])
    have HFB5 : Hid (FromB (w.heap.size + 5) (.slice A4 (dg 1000000000 t).length c4)) := HFB.out.mono a9
    have HDG2 : Hid (Dg 1000000000 V2 (.slice A4 (dg 1000000000 t).length c4) t) := by subst hV2; exact HDG.out.set HFB5.out (by simp) _
    have HOV : Hid (Ov w.heap.size (w.heap.size + 1 + 1 + 1 + 1) V V2) := by subst hV2; exact ((Ov.refl (by omega) (by omega)).call HB1.out).set _ (by first | (simp; done) | (simp; omega)) (by first | (simp; done) | (simp; omega))
    have HV5 : w.heap.size + 5 ≤ V2.heap.size := Nat.le_trans a9 HOV.out.b.size
    have HQ2 : Hid (Dg 1000000000 V2 (.slice A2 (dg 1000000000 n).length c2) n) := H2.out.below (HBB.out.trans HOV.out.b)
    clear hV2 ck0 ck1 ck2 fk1 fk2 hVw1 a1 a2 a3 a4 a6 a6' XX YY
    have hT0 := HT2.out
    gi_loopg [8, 9] 999999999 (fun g lo hi wr => ∃ a b : Nat, lo = .int .i64 a ∧ hi = .int .i64 b ∧ a + g = b ∧ b ≤ 999999999 ∧ Hid (n * a ≤ t ∧ t < n * (b + 1)) ∧ Hid (Below V2.heap.size V2 wr))
    case atStart => exact ⟨0, 999999999, rfl, rfl, by omega, by omega, ⟨by omega, by rw [Nat.mul_comm]; simpa using hT0⟩, Below.refl _ _⟩
    case round =>
      clear hT0
      obtain ⟨a, b, rfl, rfl, hg, hb9, HAT, HBW⟩ := hrel
      by_cases hlt : a < b
      · obtain ⟨M, hM⟩ : ∃ M, (a + b + 1) / 2 = M := ⟨_, rfl⟩
        have hM1 : a < M := by omega
        have hM2 : M ≤ b := by omega
        have hMi : ((a : Int) + b + 1) / 2 = (M : Int) := by omega
        have HQ3 := Lib.hid (HQ2.out.below HBW.out).drew
        have HD3 := Lib.hid (HDG2.out.below HBW.out).drew
        have z0 : wr.drew.cell? ⟨w.heap.size, 0, none⟩ = some (.slice A2 (dg 1000000000 n).length c2) := keep_cell (Below.refl _ _).drew (keep_cell HBW.out q0)
        have z0b : wr.cell? ⟨w.heap.size, 0, none⟩ = some (.slice A2 (dg 1000000000 n).length c2) := keep_cell HBW.out q0
        have z2b : wr.cell? ⟨w.heap.size + 1 + 1, 0, none⟩ = some (.slice A4 (dg 1000000000 t).length c4) := keep_cell HBW.out q2
        have hnl6 := Lib.hid (Nat.le_trans HNL.out (show 999999 ≤ 1000000 by decide))
        have z2 := keep_cell (Below.refl _ _).drew z2b
        have HM9 := Lib.hid (show M < 1000000000 by omega)
        obtain ⟨s, hs0⟩ : ∃ s, sgn (((n * M : Nat) : Int) - (t : Nat)) = s := ⟨_, rfl⟩
        have HSG := Lib.hid hs0
        by_cases hle : n * M ≤ t
        · have hs : s ≤ 0 := by
            rw [← hs0]
            rcases Nat.eq_or_lt_of_le hle with h | h
            · rw [h, Int.sub_self]; decide
            · rw [sgn_lt (by omega)]; decide
          have HLE := Lib.hid hle
          have HG := Lib.hid hg
          clear hle hg hs0
          gi_wp2_with fail
          try rw [hMi]
          gi_region_with (first | (refine ⟨trivial, ?_⟩; gi_at_call 225; refine (CallsIn.inRound l (callsIn_wide.2 (small_c _ n M _ HQ3.out hnl6.out HM9.out))).mono ?_; rintro e w' ⟨u, rfl, hu, -, hbz⟩; have HU := Lib.hid hu; have HBZ := Lib.hid hbz; have z2c := keep_cell hbz z2; clear hu hbz) | (refine ⟨trivial, ?_⟩; gi_at_call 191; refine (CallsIn.inRound l (callsIn_wide.2 (compare_c _ _ (n * M) t _ HU.out (HD3.out.below HBZ.out)))).mono ?_; rintro e w' ⟨he, hbz⟩; rw [HSG.out] at he; subst he; have HBX := Lib.hid (below_then' (below_then' (Below.refl wr.heap.size wr).drew HBZ.out) hbz); clear hbz))
          all_goals
            gi_wp2
            gi_roundg (b - M)
            case measure => have := HG.out; omega
            case rel => exact ⟨M, b, rfl, rfl, by omega, hb9, ⟨HLE.out, HAT.out.2⟩, below_then' HBW.out HBX.out⟩
        · have hs : ¬ s ≤ 0 := by rw [← hs0, sgn_gt (by omega)]; decide
          have HLE := Lib.hid hle
          have HG := Lib.hid hg
          clear hle hg hs0
          gi_wp2_with fail
          try rw [hMi]
          gi_region_with (first | (refine ⟨trivial, ?_⟩; gi_at_call 225; refine (CallsIn.inRound l (callsIn_wide.2 (small_c _ n M _ HQ3.out hnl6.out HM9.out))).mono ?_; rintro e w' ⟨u, rfl, hu, -, hbz⟩; have HU := Lib.hid hu; have HBZ := Lib.hid hbz; have z2c := keep_cell hbz z2; clear hu hbz) | (refine ⟨trivial, ?_⟩; gi_at_call 191; refine (CallsIn.inRound l (callsIn_wide.2 (compare_c _ _ (n * M) t _ HU.out (HD3.out.below HBZ.out)))).mono ?_; rintro e w' ⟨he, hbz⟩; rw [HSG.out] at he; subst he; have HBX := Lib.hid (below_then' (below_then' (Below.refl wr.heap.size wr).drew HBZ.out) hbz); clear hbz))
          all_goals
            gi_wp2
            gi_roundg (M - 1 - a)
            case measure => have := HG.out; omega
            case rel =>
              obtain ⟨M', rfl⟩ : ∃ M', M = M' + 1 := ⟨M - 1, by omega⟩
              exact ⟨a, M', rfl, by simp, by omega, by omega, ⟨HAT.out.1, by have := HLE.out; omega⟩, below_then' HBW.out HBX.out⟩
      · obtain rfl : a = b := by omega
        obtain ⟨hA1, hA2⟩ := HAT.out
        have eqa : t / n = a := Nat.div_eq_of_lt_le (by rw [Nat.mul_comm]; exact hA1) (by rw [Nat.mul_comm]; exact hA2)
        have eqm : t - n * a = t % n := by rw [← eqa]; exact (Nat.mod_eq_sub_mul_div).symm
        have HEA := Lib.hid eqa
        have HEM := Lib.hid eqm
        have HA1 := Lib.hid hA1
        have HA9 := Lib.hid (show a < 1000000000 by omega)
        have hOW3 := own_below HOW2.out HBW.out
        have hcz := own_cell hOW3 xi hxi HLQ.out
        have hfz : wr.frozen? ⟨w.heap.size + 1 + 1 + 1, xi, none⟩ = false := hOW3.frozenAt xi
        have y0 := keep_cell HBW.out q0
        have y1 := keep_cell HBW.out q1
        have y2 := keep_cell HBW.out q2
        have j1 := keep_free' HBW.out q1 g1
        have j2 := keep_free' HBW.out q2 g2
        have HOW3 := Lib.hid hOW3
        clear hlt hg hA1 hA2 eqa eqm hOW3 q0 q1 q2 g1 g2
        gi_wp2_with fail
        obtain ⟨V3, hV3⟩ : ∃ V3, wr.setCell ⟨w.heap.size + 1 + 1 + 1, xi, none⟩ (.int .i64 (a : Int)) = V3 := ⟨_, rfl⟩
        rw [hV3]
        have x0 : V3.cell? ⟨w.heap.size, 0, none⟩ = some (.slice A2 (dg 1000000000 n).length c2) := by subst hV3; exact set_far _ (by first | (simp; done) | (simp; omega)) y0
        have x1 : V3.cell? ⟨w.heap.size + 1, 0, none⟩ = some (.slice (some ⟨w.heap.size + 1 + 1 + 1, 0, none⟩) p.length p.length) := by subst hV3; exact set_far _ (by first | (simp; done) | (simp; omega)) y1
        have x2 : V3.cell? ⟨w.heap.size + 1 + 1, 0, none⟩ = some (.slice A4 (dg 1000000000 t).length c4) := by subst hV3; exact set_far _ (by first | (simp; done) | (simp; omega)) y2
        have l1 : V3.frozen? ⟨w.heap.size + 1, 0, none⟩ = false := by subst hV3; simpa using j1
        have l2 : V3.frozen? ⟨w.heap.size + 1 + 1, 0, none⟩ = false := by subst hV3; simpa using j2
        have HOW4 : Hid (V3.ownsRow (w.heap.size + 1 + 1 + 1) 3 1 (.slice (some ⟨w.heap.size + 1 + 1 + 1, 0, none⟩) p.length p.length) p.length ((ql.set xi (a : Int)).map (Value.int .i64))) := by subst hV3; exact store_own HOW3.out _ _
        have HD4 : Hid (Dg 1000000000 V3.drew (.slice A4 (dg 1000000000 t).length c4) t) := by subst hV3; exact ((HDG2.out.below HBW.out).set HFB5.out (by simp) _).drew
        have HOV3 : Hid (Ov w.heap.size (w.heap.size + 1 + 1 + 1 + 1) V V3) := by subst hV3; exact (HOV.out.call HBW.out).set _ (by first | (simp; done) | (simp; omega)) (by first | (simp; done) | (simp; omega))
        have HQ4 : Hid (Dg 1000000000 V3.drew (.slice A2 (dg 1000000000 n).length c2) n) := (Dg.below H2.out (HBB.out.trans HOV3.out.b)).drew
        have hnl6 := Lib.hid (Nat.le_trans HNL.out (show 999999 ≤ 1000000 by decide))
        have HV53 : Hid (w.heap.size + 5 ≤ V3.heap.size) := Nat.le_trans a9 HOV3.out.b.size
        have HTL := Lib.hid htl
        have x0d := keep_cell (Below.refl _ _).drew x0
        have x2d := keep_cell (Below.refl _ _).drew x2
        have l2d := keep_free' (Below.refl _ _).drew x2 l2
        clear hV3 hcz hfz y0 y1 y2 j1 j2
        gi_region_with (first | (refine ⟨trivial, ?_⟩; gi_at_call 225; refine (CallsIn.inRound l (callsIn_wide.2 (small_c _ n a _ HQ4.out hnl6.out HA9.out))).mono ?_; rintro e w' ⟨u, rfl, hu, -, hbz⟩; have HU := Lib.hid hu; have HBZ := Lib.hid hbz; have z2c := keep_cell hbz x2d; have l2c := keep_free' hbz x2d l2d; clear hu hbz) | (refine ⟨trivial, ?_⟩; gi_at_call 192; refine (CallsIn.inRound l (callsIn_wide.2 (minus_c _ _ t (n * a) _ (HD4.out.below HBZ.out) HU.out HTL.out HA1.out))).mono ?_; rintro e w' ⟨u2, rfl, hu2, hf2, hbz⟩; have z2e := keep_cell hbz z2c; have l2e := keep_free' hbz z2c l2c; have HU2 := Lib.hid hu2; obtain ⟨A5, c5, rfl, hl5, hm5, hr5⟩ := hu2; have HF2 := Lib.hid hf2; have HBX := Lib.hid hbz; clear hbz hf2 hr5))
        all_goals
          gi_wp2
          have HBY := Lib.hid (below_then' (below_then' (Below.refl V3.heap.size V3).drew HBZ.out) HBX.out)
          have HOVF := HOV3.out.call HBY.out
          have HOVG := HOVF.set (a := ⟨w.heap.size + 1 + 1, 0, none⟩) (.slice A5 (dg 1000000000 (t - n * a)).length c5) (by first | (simp; done) | (simp; omega)) (by first | (simp; done) | (simp; omega))
          have hfb : FromB (w.heap.size + 5) (.slice A5 (dg 1000000000 (t - n * a)).length c5) := HF2.out.mono (Nat.le_trans HV53.out HBZ.out.size)
          have e1 : (ost n p (pre ++ [⟨xi, hxi⟩])).1 = t - n * a := by rw [ESN.out, HEM.out, Int.toNat_natCast, HTE.out]
          have e2 : (ost n p (pre ++ [⟨xi, hxi⟩])).2 = ql.set xi (a : Int) := by rw [ESN.out, Int.toNat_natCast, HTE.out, HEA.out]
          refine ⟨HOVG.ko, HOVG.kd, ⟨set_far _ (by first | (simp; done) | (simp; omega)) (keep_cell HBY.out x0), set_far _ (by first | (simp; done) | (simp; omega)) (keep_cell HBY.out x1), ?_, ?_, ?_, _, set_same _ (keep_cell HBY.out x2), ?_, hfb⟩, ?_, HBB.out.trans HOVG.b⟩
          · simpa using keep_free' HBY.out x1 l1
          · simpa using keep_free' HBY.out x2 l2
          · rw [e2]; exact own_setCell_other (own_below HOW4.out HBY.out) _ _ (by simp [Value.ownBlock])
          · rw [e1]; exact HU2.out.set hfb (by simp) _
          · simpa using Nat.le_trans HV53.out HBY.out.size
  case done =>
    rintro D ys V hD rfl ⟨⟨a1, a2, a3, a4, a5, v, a6, a7, a8⟩, a9, hB⟩ hK
    obtain ⟨vv, e1, e2, e3⟩ := ost_dn HN.out I1.out p.length (Nat.le_refl _)
    rw [Nat.sub_self, List.drop_zero] at e1 e3
    rw [V1.out] at e1
    obtain rfl : m = vv := by exact_mod_cast e1
    have hlq := ost_len n p (dn p.length p.length)
    have hiq := ost_inR HN.out I1.out (dn p.length p.length)
    generalize (ost n p (dn p.length p.length)).2 = ql at *
    rw [e2] at a7
    have HIQ := Lib.hid hiq
    have HVQ := Lib.hid e3
    have HRQ : Hid (Row .i64 V.drew (some ⟨w.heap.size + 1 + 1 + 1, 0, none⟩) ql) := by
      obtain ⟨A', c', hve, _, _, hrow, _⟩ := own_row a5
      obtain ⟨rfl, _, rfl⟩ := Value.slice.inj hve
      exact hrow.drew
    have HLQ := Lib.hid hlq
    have HD5 := Lib.hid a7
    have HF5 := Lib.hid a8
    have HBB := Lib.hid hB
    have HK := Lib.hid hK
    obtain ⟨A', c', rfl, hc1', hm1', hr1'⟩ := a7
    have z1 := keep_cell (Below.refl _ _).drew a2
    have z2 := keep_cell (Below.refl _ _).drew a6
    have zf1 := keep_free' (Below.refl _ _).drew a2 a3
    have zf2 := keep_free' (Below.refl _ _).drew a6 a4
    have hpl : p.length ≤ 9223372036854775807 := by omega
    clear hW hown0 c0 c1_ c2_ c4_ f1_ f2_ a5 hr1' hiq e1 e2 e3 hlq hB hK a1
    gi_wp2_with fail
    gi_region_with (first | (refine ⟨trivial, ?_⟩; gi_at_call 222; rw [show (Value.slice (some ⟨w.heap.size + 1 + 1 + 1, 0, none⟩) p.length p.length) = Value.slice (some ⟨w.heap.size + 1 + 1 + 1, 0, none⟩) ql.length p.length from by rw [HLQ.out]]; refine (callsIn_wide.2 (cut_c (some ⟨w.heap.size + 1 + 1 + 1, 0, none⟩) p.length ql _ HRQ.out (by rw [HLQ.out]; exact Nat.le_refl _) hpl)).mono ?_; intro e w' hcut; obtain ⟨rfl, v6, rfl, hdg, hblk⟩ := cut_dg (b := 1000000000) (by decide) HRQ.out (by rw [HLQ.out]; exact Nat.le_refl _) hpl HIQ.out HVQ.out hcut; have HDQ := Lib.hid hdg; obtain ⟨A6, c6, rfl, hl6, hm6, hr6⟩ := hdg; have HFQ := Lib.hid (show FromB (w.heap.size + 1 + 1 + 1) (.slice A6 (dg 1000000000 (m / n)).length c6) from fun g hg => by obtain ⟨a, e, rfl⟩ := hblk g hg; cases e; exact Nat.le_refl _); clear hr6 hblk hcut))
    all_goals
      gi_wp2
      obtain ⟨U, hU⟩ : ∃ U, ((V.setCell ⟨w.heap.size + 1, 0, none⟩ (.slice A6 (dg 1000000000 (m / n)).length c6)).setCell ⟨w.heap.size + 1 + 1, 0, none⟩ (.slice A' (dg 1000000000 (m % n)).length c')).drew = U := ⟨_, rfl⟩
      have hK' : U.heap[D]? = some (.deferred (some [])) := by subst hU; exact (((KeepsOthers.setCell V ⟨w.heap.size + 1, 0, none⟩ (.slice A6 (dg 1000000000 (m / n)).length c6)).trans (KeepsOthers.setCell _ ⟨w.heap.size + 1 + 1, 0, none⟩ (.slice A' (dg 1000000000 (m % n)).length c'))).trans (KeepsOthers.drew _)).same D _ HK.out rfl
      have hkr : ∀ r, some D = some r → ∃ o : Obj, U.heap[r]? = some o ∧ o.isCells = false := fun r e => by cases e; exact ⟨_, hK', rfl⟩
      have t1 : U.cell? ⟨w.heap.size + 1, 0, none⟩ = some (.slice A6 (dg 1000000000 (m / n)).length c6) := by subst hU; exact set_far (a := ⟨w.heap.size + 1 + 1, 0, none⟩) _ (by first | (simp; done) | (simp; omega)) (set_same _ a2)
      have t2 : U.cell? ⟨w.heap.size + 1 + 1, 0, none⟩ = some (.slice A' (dg 1000000000 (m % n)).length c') := by subst hU; exact set_same _ (set_far (a := ⟨w.heap.size + 1, 0, none⟩) _ (by first | (simp; done) | (simp; omega)) a6)
      have r1 : Dg 1000000000 U (.slice A6 (dg 1000000000 (m / n)).length c6) (m / n) := by subst hU; exact (Dg.set (k := w.heap.size + 1 + 1 + 1) (Dg.set (k := w.heap.size + 1 + 1 + 1) HDQ.out HFQ.out (a := ⟨w.heap.size + 1, 0, none⟩) (by first | (simp; done) | (simp; omega)) _) HFQ.out (a := ⟨w.heap.size + 1 + 1, 0, none⟩) (by first | (simp; done) | (simp; omega)) _)
      have r2 : Dg 1000000000 U (.slice A' (dg 1000000000 (m % n)).length c') (m % n) := by subst hU; exact ((Dg.set (Dg.set HD5.out HF5.out (a := ⟨w.heap.size + 1, 0, none⟩) (by first | (simp; done) | (simp; omega)) _) HF5.out (a := ⟨w.heap.size + 1 + 1, 0, none⟩) (by first | (simp; done) | (simp; omega)) _)).drew
      have hBU : Below w.heap.size w U := by subst hU; exact ((HBB.out.setCell (p := ⟨w.heap.size + 1, 0, none⟩) (by first | (simp; done) | (simp; omega)) _).setCell (p := ⟨w.heap.size + 1 + 1, 0, none⟩) (by first | (simp; done) | (simp; omega)) _).drew
      rw [hU]
      clear hU
      have u1 := cell_kept t1 (grownBy_putObj' _ D (.deferred none)) hkr
      have u2 := cell_kept t2 (grownBy_putObj' _ D (.deferred none)) hkr
      refine ⟨by simp, .inl ⟨_, _, rfl, run_takeDeferred hK', ?_⟩⟩
      refine ⟨.tuple #[.slice A6 (dg 1000000000 (m / n)).length c6, .slice A' (dg 1000000000 (m % n)).length c'], ?_, _, _, rfl, dg_kept r1 (grownBy_putObj' _ D (.deferred none)) hkr, dg_kept r2 (grownBy_putObj' _ D (.deferred none)) hkr, HFQ.out.mono (by omega), HF5.out.mono (by omega), hBU.trans (belowK_b (w := w) (Nat.le_refl _) _ D _ _ (by omega) hK' rfl rfl)⟩
      simp [results, Tryz.f198, go_sem, u1, u2]

theorem over_c (v1 v2 : Value) (m n : Nat) (w : World) (h1 : Dg 1000000000 w v1 m) (h2 : Dg 1000000000 w v2 n) (hn : 0 < n) (hml : (dg 1000000000 m).length ≤ 1000000) (hnl : (dg 1000000000 n).length ≤ 999999) :
    Calls Tryz.prog 198 #[v1, v2] w (OverP m n w) := callsIn_wide.1 (over_in v1 v2 m n w h1 h2 hn hml hnl)

end Go.Proofs.YtekbfommnmikbaaGreatDoor
