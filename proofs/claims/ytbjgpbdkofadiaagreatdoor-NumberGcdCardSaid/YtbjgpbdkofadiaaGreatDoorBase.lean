/- Plain mathematics of texts to a base. No program in sight. -/
import Derived.Test.YtbjgpbdkofadiaaGreatDoorValid
namespace Go.Proofs.YtbjgpbdkofadiaaGreatDoor
set_option linter.unusedVariables false
set_option linter.unusedSimpArgs false

/-- A digit's sign. -/
def chr (d : Nat) : UInt8 := if d < 10 then UInt8.ofNat (48 + d) else UInt8.ofNat (87 + d)
/-- The digits' signs, the most significant one first; nothing for 0. -/
def bdig (b n : Nat) : List UInt8 := (dg b n).reverse.map fun d => chr d.toNat
/-- The text to a base. -/
def btext (b : Nat) (z : Int) : List UInt8 := if z = 0 then [48] else (if z < 0 then [45] else []) ++ bdig b z.natAbs

theorem chr_toNat {d : Nat} (h : d < 36) : (chr d).toNat = if d < 10 then 48 + d else 87 + d := by
  unfold chr
  split
  · rw [UInt8.toNat_ofNat']; omega
  · rw [UInt8.toNat_ofNat']; omega
theorem chr_inj {c d : Nat} (hc : c < 36) (hd : d < 36) (h : chr c = chr d) : c = d := by
  have h1 := congrArg UInt8.toNat h
  rw [chr_toNat hc, chr_toNat hd] at h1
  split at h1 <;> split at h1 <;> omega

theorem bdig_pos {b n : Nat} (hb : 2 ≤ b) (hn : 0 < n) : bdig b n = bdig b (n / b) ++ [chr (n % b)] := by
  unfold bdig
  rw [dg_pos hb hn, List.reverse_cons, List.map_append, List.map_cons, List.map_nil, Int.toNat_natCast]
theorem bdig_zero (b : Nat) : bdig b 0 = [] := by unfold bdig; rw [dg_zero]; rfl

/-- To the base 10: the decimal digits. -/
theorem bdig_ten : ∀ n, 0 < n → bdig 10 n = Lib.decDigits n := by
  intro n
  induction n using Nat.strongRecOn with
  | _ n ih =>
    intro hn
    rw [bdig_pos (by decide) hn]
    by_cases h : n < 10
    · rw [Nat.div_eq_of_lt h, bdig_zero, Nat.mod_eq_of_lt h, Lib.decDigits_one h]
      unfold chr
      rw [if_pos h]; simp
    · rw [ih (n / 10) (by omega) (by omega)]
      conv => rhs; rw [Lib.decDigits, dif_neg h]
      unfold chr
      rw [if_pos (Nat.mod_lt _ (by decide))]
theorem btext_ten (z : Int) : btext 10 z = Lib.itoa z := by
  unfold btext Lib.itoa
  by_cases h0 : z = 0
  · subst h0; rw [if_pos rfl, if_neg (by omega)]; exact decDigits_zero.symm
  · rw [if_neg h0, bdig_ten _ (by omega)]
    by_cases h : z < 0
    · rw [if_pos h, if_pos h]; rfl
    · rw [if_neg h, if_neg h, show z.toNat = z.natAbs by omega]; rfl

/-- What a sign stands for: its index, or none. -/
def idxOf (c : UInt8) : Option Nat := if 48 ≤ c.toNat ∧ c.toNat ≤ 57 then some (c.toNat - 48) else if 97 ≤ c.toNat ∧ c.toNat ≤ 122 then some (c.toNat - 87) else none
theorem idxOf_chr {d : Nat} (h : d < 36) : idxOf (chr d) = some d := by
  have h1 := chr_toNat h
  unfold idxOf
  rw [h1]
  by_cases h2 : d < 10
  · rw [if_pos h2, if_pos (by omega)]; congr 1; omega
  · rw [if_neg h2, if_neg (by omega), if_pos (by omega)]; congr 1; omega
theorem chr_idxOf {c : UInt8} {d : Nat} (h : idxOf c = some d) : d < 36 ∧ chr d = c := by
  unfold idxOf at h
  split at h
  · rename_i h1
    cases h
    refine ⟨by omega, UInt8.toNat_inj.1 ?_⟩
    rw [chr_toNat (by omega), if_pos (by omega)]; omega
  · split at h
    · rename_i h1
      cases h
      refine ⟨by omega, UInt8.toNat_inj.1 ?_⟩
      rw [chr_toNat (by omega), if_neg (by omega)]; omega
    · cases h

/-- The number that signs stand for. -/
def bval (b : Nat) : List UInt8 → Nat := List.foldl (fun acc c => acc * b + (idxOf c).getD 0) 0
theorem bval_nil (b : Nat) : bval b [] = 0 := rfl
theorem bval_snoc (b : Nat) (l : List UInt8) (c : UInt8) : bval b (l ++ [c]) = bval b l * b + (idxOf c).getD 0 := by simp [bval]

/-- All are signs of digits to the base. -/
def bdigs (b : Nat) (l : List UInt8) : Prop := ∀ c ∈ l, ∃ d, idxOf c = some d ∧ d < b

theorem bval_bdig {b : Nat} (hb : 2 ≤ b) (hb2 : b ≤ 36) : ∀ n, bval b (bdig b n) = n := by
  intro n
  induction n using Nat.strongRecOn with
  | _ n ih =>
    rcases Nat.eq_zero_or_pos n with rfl | hn
    · rw [bdig_zero]; rfl
    · have hm : n % b < b := Nat.mod_lt _ (by omega)
      rw [bdig_pos hb hn, bval_snoc, ih (n / b) (Nat.div_lt_self hn hb), idxOf_chr (by omega), Nat.mul_comm]
      exact Nat.div_add_mod n b
theorem bdigs_bdig {b : Nat} (hb : 2 ≤ b) (hb2 : b ≤ 36) (n : Nat) : bdigs b (bdig b n) := by
  induction n using Nat.strongRecOn with
  | _ n ih =>
    rcases Nat.eq_zero_or_pos n with rfl | hn
    · rw [bdig_zero]; intro c hc; cases hc
    · have hm : n % b < b := Nat.mod_lt _ (by omega)
      rw [bdig_pos hb hn]
      intro c hc
      rcases List.mem_append.1 hc with hc | hc
      · exact ih (n / b) (Nat.div_lt_self hn hb) c hc
      · obtain rfl := List.mem_singleton.1 hc
        exact ⟨n % b, idxOf_chr (by omega), hm⟩
theorem bdig_ne {b n : Nat} (hb : 2 ≤ b) (hn : 0 < n) : bdig b n ≠ [] := by rw [bdig_pos hb hn]; simp
theorem bdig_head {b : Nat} (hb : 2 ≤ b) (hb2 : b ≤ 36) : ∀ n, 0 < n → (bdig b n).head? ≠ some 48 := by
  intro n
  induction n using Nat.strongRecOn with
  | _ n ih =>
    intro hn
    rw [bdig_pos hb hn]
    rcases Nat.eq_zero_or_pos (n / b) with h | h
    · have hlt : n < b := by
        rcases Nat.lt_or_ge n b with h2 | h2
        · exact h2
        · have := Nat.div_pos h2 (by omega); omega
      rw [h, bdig_zero, Nat.mod_eq_of_lt hlt]
      intro e
      have e2 : chr n = 48 := by simpa using e
      have := congrArg UInt8.toNat e2
      rw [chr_toNat (by omega)] at this
      have h48 : (48 : UInt8).toNat = 48 := rfl
      rw [h48] at this
      split at this <;> omega
    · rw [head_append _ (bdig_ne hb h)]
      exact ih (n / b) (Nat.div_lt_self hn hb) h
theorem bval_append (b : Nat) (l m : List UInt8) : bval b (l ++ m) = bval b l * b ^ m.length + bval b m := by
  have key : ∀ (m : List UInt8) (acc : Nat), List.foldl (fun acc c => acc * b + (idxOf c).getD 0) acc m = acc * b ^ m.length + bval b m := by
    intro m
    induction m with
    | nil => intro acc; simp [bval]
    | cons c m ih =>
      intro acc
      have h2 : bval b (c :: m) = ((idxOf c).getD 0) * b ^ m.length + bval b m := by
        have := ih ((idxOf c).getD 0)
        simpa [bval] using this
      rw [List.foldl_cons, ih, h2, List.length_cons, Nat.pow_succ]
      grind
  have := key m (bval b l)
  simpa [bval] using this
/-- The value grows with the digits. -/
theorem bval_take_le {b : Nat} (hb : 2 ≤ b) (l : List UInt8) (i : Nat) : bval b (l.take i) ≤ bval b l := by
  conv => rhs; rw [← List.take_append_drop i l, bval_append]
  have : 0 < b ^ (l.drop i).length := Nat.pow_pos (by omega)
  have := Nat.le_mul_of_pos_right (bval b (l.take i)) this
  omega
/-- Digits without a 0 ahead are the digits of their value. -/
theorem bdig_bval {b : Nat} (hb : 2 ≤ b) (hb2 : b ≤ 36) : ∀ (n : Nat) (l : List UInt8), l.length = n + 1 → bdigs b l → l.head? ≠ some 48 → 0 < bval b l ∧ bdig b (bval b l) = l := by
  intro n
  induction n with
  | zero =>
    intro l hl hd hh
    match l, hl with
    | [c], _ =>
      obtain ⟨d, h1, h2⟩ := hd c (by simp)
      obtain ⟨h3, h4⟩ := chr_idxOf h1
      have hv : bval b [c] = d := by simp [bval, h1]
      have h0 : 0 < d := by
        rcases Nat.eq_zero_or_pos d with h | h
        · exfalso; apply hh; rw [← h4, h]; rfl
        · exact h
      rw [hv, bdig_pos hb h0, Nat.div_eq_of_lt h2, bdig_zero, Nat.mod_eq_of_lt h2, h4]
      exact ⟨h0, rfl⟩
  | succ n ih =>
    intro l hl hd hh
    have hne : l ≠ [] := by intro e; rw [e] at hl; simp at hl
    obtain ⟨m, c, rfl⟩ : ∃ m c, l = m ++ [c] := ⟨l.dropLast, l.getLast hne, (List.dropLast_concat_getLast hne).symm⟩
    have hml : m.length = n + 1 := by simpa using hl
    have hmne : m ≠ [] := by intro e; rw [e] at hml; simp at hml
    rw [head_append _ hmne] at hh
    obtain ⟨h5, h6⟩ := ih m hml (fun c hc => hd c (List.mem_append_left _ hc)) hh
    obtain ⟨d, h1, h2⟩ := hd c (by simp)
    obtain ⟨h3, h4⟩ := chr_idxOf h1
    have hv : bval b (m ++ [c]) = bval b m * b + d := by rw [bval_snoc, h1]; rfl
    have hp : 0 < bval b m * b + d := by
      have := Nat.mul_pos h5 (show 0 < b by omega)
      omega
    rw [hv]
    refine ⟨hp, ?_⟩
    rw [bdig_pos hb hp]
    have e1 : (bval b m * b + d) / b = bval b m := by
      rw [Nat.mul_comm, Nat.mul_add_div (by omega), Nat.div_eq_of_lt h2]; rfl
    have e2 : (bval b m * b + d) % b = d := by rw [Nat.mul_comm, Nat.mul_add_mod, Nat.mod_eq_of_lt h2]
    rw [e1, e2, h6, h4]

/-- What FromBase takes: digits behind a sign, without a 0 ahead. -/
def formB (b : Nat) (l : List UInt8) : Prop := Lib.trimPrefix l [45] ≠ [] ∧ ¬ ((Lib.trimPrefix l [45]).head? = some 48 ∧ l ≠ [48]) ∧ bdigs b (Lib.trimPrefix l [45])
/-- The integer. -/
def fromB (b : Nat) (l : List UInt8) : Int := if l.head? = some 45 then -(bval b (Lib.trimPrefix l [45]) : Int) else (bval b (Lib.trimPrefix l [45]) : Int)

theorem not_minus_bdig {b : Nat} (hb : 2 ≤ b) (hb2 : b ≤ 36) (n : Nat) : (bdig b n).head? ≠ some 45 := by
  intro e
  cases h : bdig b n with
  | nil => rw [h] at e; cases e
  | cons c r =>
    rw [h] at e
    have hc : c = 45 := by simpa using e
    obtain ⟨d, h1, h2⟩ := bdigs_bdig hb hb2 n c (by rw [h]; simp)
    rw [hc] at h1
    cases h1

/-- What ToBase writes, FromBase takes. -/
theorem formB_btext {b : Nat} (hb : 2 ≤ b) (hb2 : b ≤ 36) (z : Int) : formB b (btext b z) ∧ fromB b (btext b z) = z := by
  unfold formB fromB btext
  by_cases h0 : z = 0
  · subst h0
    rw [if_pos rfl]
    rw [trim_other (by decide)]
    refine ⟨⟨by simp, by simp, ?_⟩, ?_⟩
    · intro c hc
      obtain rfl := List.mem_singleton.1 hc
      exact ⟨0, rfl, by omega⟩
    · rw [if_neg (by decide)]; simp [bval, idxOf]
  · rw [if_neg h0]
    have hp : 0 < z.natAbs := by omega
    by_cases h : z < 0
    · rw [if_pos h]
      rw [show [45] ++ bdig b z.natAbs = 45 :: bdig b z.natAbs from rfl, trim_minus]
      refine ⟨⟨bdig_ne hb hp, fun ⟨e, _⟩ => bdig_head hb hb2 _ hp e, bdigs_bdig hb hb2 _⟩, ?_⟩
      rw [if_pos (by rfl), bval_bdig hb hb2]; omega
    · rw [if_neg h, List.nil_append, trim_other (not_minus_bdig hb hb2 _)]
      refine ⟨⟨bdig_ne hb hp, fun ⟨e, _⟩ => bdig_head hb hb2 _ hp e, bdigs_bdig hb hb2 _⟩, ?_⟩
      rw [if_neg (not_minus_bdig hb hb2 _), bval_bdig hb hb2]; omega

/-- What FromBase takes, ToBase writes. -/
theorem btext_fromB {b : Nat} (hb : 2 ≤ b) (hb2 : b ≤ 36) {l : List UInt8} (h : formB b l) : btext b (fromB b l) = l := by
  obtain ⟨h1, h2, h3⟩ := h
  by_cases hz : l = [48]
  · subst hz
    unfold fromB
    rw [trim_other (by decide), if_neg (by decide), show bval b [48] = 0 by simp [bval, idxOf]]
    rfl
  · have hh : (Lib.trimPrefix l [45]).head? ≠ some 48 := fun e => h2 ⟨e, hz⟩
    obtain ⟨n, hn⟩ : ∃ n, (Lib.trimPrefix l [45]).length = n + 1 := ⟨(Lib.trimPrefix l [45]).length - 1, by have := List.length_pos_iff.2 h1; omega⟩
    obtain ⟨h4, h5⟩ := bdig_bval hb hb2 n _ hn h3 hh
    unfold fromB btext
    by_cases hm : l.head? = some 45
    · rw [if_pos hm, if_neg (by omega), if_pos (by omega), Int.natAbs_neg, Int.natAbs_natCast, h5]
      cases l with
      | nil => cases hm
      | cons c r =>
        have hc : c = 45 := by simpa using hm
        rw [hc, trim_minus]; rfl
    · rw [if_neg hm, if_neg (by omega), if_neg (by omega), Int.natAbs_natCast, h5, trim_other hm]; rfl

end Go.Proofs.YtbjgpbdkofadiaaGreatDoor
