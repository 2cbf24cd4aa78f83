/- Plain mathematics of digits to a base: values of lists of digits, canonical digits, cutting zeros, comparing. No program in sight. -/
namespace Go.Proofs.YtbjgpbdkofadiaaGreatDoor
set_option linter.unusedVariables false
set_option linter.unusedSimpArgs false

/-- The value of digits, the least significant one first. -/
def val (b : Nat) : List Int → Int
  | [] => 0
  | d :: l => d + (b : Int) * val b l

/-- All are digits to the base. -/
def InR (b : Nat) (l : List Int) : Prop := ∀ d ∈ l, 0 ≤ d ∧ d < (b : Int)

theorem InR.nil (b : Nat) : InR b [] := fun _ h => by cases h
theorem InR.cons {b : Nat} {d : Int} {l : List Int} (h0 : 0 ≤ d) (h1 : d < (b : Int)) (h : InR b l) : InR b (d :: l) := by
  intro x hx
  rcases List.mem_cons.1 hx with rfl | hx
  · exact ⟨h0, h1⟩
  · exact h x hx
theorem InR.tail {b : Nat} {d : Int} {l : List Int} (h : InR b (d :: l)) : InR b l := fun x hx => h x (List.mem_cons_of_mem _ hx)
theorem InR.append {b : Nat} {l m : List Int} (h : InR b l) (k : InR b m) : InR b (l ++ m) := by
  intro x hx
  rcases List.mem_append.1 hx with hx | hx
  · exact h x hx
  · exact k x hx
theorem InR.snoc {b : Nat} {l : List Int} {d : Int} (h : InR b l) (h0 : 0 ≤ d) (h1 : d < (b : Int)) : InR b (l ++ [d]) := h.append (InR.cons h0 h1 (InR.nil b))
theorem InR.take {b : Nat} {l : List Int} (h : InR b l) (k : Nat) : InR b (l.take k) := fun x hx => h x (List.mem_of_mem_take hx)
theorem InR.drop {b : Nat} {l : List Int} (h : InR b l) (k : Nat) : InR b (l.drop k) := fun x hx => h x (List.mem_of_mem_drop hx)
theorem InR.set {b : Nat} {l : List Int} (h : InR b l) (i : Nat) {d : Int} (h0 : 0 ≤ d) (h1 : d < (b : Int)) : InR b (l.set i d) := by
  intro x hx
  rcases List.mem_or_eq_of_mem_set hx with hx | rfl
  · exact h x hx
  · exact ⟨h0, h1⟩
theorem InR.at_ {b : Nat} {l : List Int} (h : InR b l) (hb : 0 < b) (i : Nat) : 0 ≤ l.getD i 0 ∧ l.getD i 0 < (b : Int) := by
  by_cases hi : i < l.length
  · rw [List.getD_eq_getElem?_getD, List.getElem?_eq_getElem hi]
    exact h _ (List.getElem_mem hi)
  · rw [List.getD_eq_getElem?_getD, List.getElem?_eq_none (by omega)]
    simp; omega
theorem InR.replicate {b : Nat} (hb : 0 < b) (n : Nat) : InR b (List.replicate n 0) := by
  intro x hx
  obtain ⟨_, rfl⟩ := List.mem_replicate.1 hx
  exact ⟨Int.le_refl _, by omega⟩

theorem val_nil (b : Nat) : val b [] = 0 := rfl
theorem val_cons (b : Nat) (d : Int) (l : List Int) : val b (d :: l) = d + (b : Int) * val b l := rfl

theorem val_append (b : Nat) (l m : List Int) : val b (l ++ m) = val b l + (b : Int) ^ l.length * val b m := by
  induction l with
  | nil => simp [val]
  | cons d l ih =>
    simp only [List.cons_append, val_cons, ih, List.length_cons, Int.pow_succ]
    grind

theorem val_snoc (b : Nat) (l : List Int) (d : Int) : val b (l ++ [d]) = val b l + (b : Int) ^ l.length * d := by
  rw [val_append]; simp [val]

theorem val_replicate (b n : Nat) : val b (List.replicate n 0) = 0 := by
  induction n with
  | zero => rfl
  | succ n ih => rw [List.replicate_succ, val_cons, ih]; simp

theorem val_nonneg {b : Nat} {l : List Int} (h : InR b l) : 0 ≤ val b l := by
  induction l with
  | nil => exact Int.le_refl _
  | cons d l ih =>
    have h1 := h d (List.mem_cons_self ..)
    have h2 := ih h.tail
    have h3 : 0 ≤ (b : Int) * val b l := Int.mul_nonneg (by omega) h2
    rw [val_cons]; omega

theorem pow_pos' {b : Nat} (hb : 0 < b) (k : Nat) : 0 < (b : Int) ^ k := Int.pow_pos (by omega)

theorem pow_mono' {b i j : Nat} (hb : 0 < b) (h : i ≤ j) : (b : Int) ^ i ≤ (b : Int) ^ j := by exact_mod_cast Nat.pow_le_pow_right hb h

theorem val_lt {b : Nat} {l : List Int} (h : InR b l) : val b l < (b : Int) ^ l.length := by
  induction l with
  | nil => simp [val]
  | cons d l ih =>
    have h1 := h d (List.mem_cons_self ..)
    have h2 := ih h.tail
    have h3 : (b : Int) * (val b l + 1) ≤ (b : Int) * (b : Int) ^ l.length := Int.mul_le_mul_of_nonneg_left (by omega) (by omega)
    rw [val_cons, List.length_cons, Int.pow_succ, Int.mul_comm ((b : Int) ^ l.length)]
    rw [Int.mul_add] at h3
    omega

theorem val_take_succ (b : Nat) (l : List Int) (i : Nat) : val b (l.take (i + 1)) = val b (l.take i) + (b : Int) ^ i * l.getD i 0 := by
  by_cases hi : i < l.length
  · rw [List.take_succ_eq_append_getElem hi, val_snoc, List.length_take, Nat.min_eq_left (by omega), List.getD_eq_getElem?_getD, List.getElem?_eq_getElem hi]
    rfl
  · rw [List.take_of_length_le (by omega), List.take_of_length_le (by omega), List.getD_eq_getElem?_getD, List.getElem?_eq_none (by omega)]
    simp

theorem val_drop (b : Nat) (l : List Int) (i : Nat) (hi : i < l.length) : val b (l.drop i) = l.getD i 0 + (b : Int) * val b (l.drop (i + 1)) := by
  rw [List.drop_eq_getElem_cons hi, val_cons, List.getD_eq_getElem?_getD, List.getElem?_eq_getElem hi]
  rfl

theorem val_take_drop (b : Nat) (l : List Int) (i : Nat) (hi : i ≤ l.length) : val b l = val b (l.take i) + (b : Int) ^ i * val b (l.drop i) := by
  have h := val_append b (l.take i) (l.drop i)
  rw [List.take_append_drop, List.length_take, Nat.min_eq_left hi] at h
  exact h

theorem val_set (b : Nat) (l : List Int) (i : Nat) (x : Int) (hi : i < l.length) : val b (l.set i x) = val b l + (b : Int) ^ i * (x - l.getD i 0) := by
  induction l generalizing i with
  | nil => simp at hi
  | cons d l ih =>
    cases i with
    | zero => simp [val_cons]; omega
    | succ i =>
      have h := ih i (by simpa using hi)
      simp only [List.set_cons_succ, val_cons, h, List.getD_cons_succ, Int.pow_succ]
      grind

theorem getD_set (l : List Int) (i j : Nat) (x : Int) (hi : i < l.length) : (l.set i x).getD j 0 = if j = i then x else l.getD j 0 := by
  simp only [List.getD_eq_getElem?_getD, List.getElem?_set]
  by_cases h : i = j
  · subst h; simp [hi]
  · have h' : ¬ j = i := fun e => h e.symm
    simp [h, h']

/-- The canonical digits of a number, the least significant one first, without zeros at the end. -/
def dg (b n : Nat) : List Int := if h : n = 0 ∨ b < 2 then [] else ((n % b : Nat) : Int) :: dg b (n / b)
termination_by n
decreasing_by exact Nat.div_lt_self (by omega) (by omega)

theorem dg_zero (b : Nat) : dg b 0 = [] := by rw [dg]; simp
theorem dg_pos {b n : Nat} (hb : 2 ≤ b) (hn : 0 < n) : dg b n = ((n % b : Nat) : Int) :: dg b (n / b) := by
  rw [dg, dif_neg (by omega)]

theorem dg_inR {b : Nat} (hb : 2 ≤ b) (n : Nat) : InR b (dg b n) := by
  induction n using Nat.strongRecOn with
  | _ n ih =>
    by_cases hn : n = 0
    · subst hn; rw [dg_zero]; exact InR.nil b
    · rw [dg_pos hb (by omega)]
      have := Nat.mod_lt n (show 0 < b by omega)
      exact InR.cons (by omega) (by omega) (ih _ (Nat.div_lt_self (by omega) (by omega)))

theorem val_dg {b : Nat} (hb : 2 ≤ b) (n : Nat) : val b (dg b n) = (n : Int) := by
  induction n using Nat.strongRecOn with
  | _ n ih =>
    by_cases hn : n = 0
    · subst hn; rw [dg_zero]; rfl
    · rw [dg_pos hb (by omega), val_cons, ih _ (Nat.div_lt_self (by omega) (by omega))]
      have := Nat.mod_add_div n b
      have e : ((n % b : Nat) : Int) + (b : Int) * ((n / b : Nat) : Int) = ((n % b + b * (n / b) : Nat) : Int) := by simp
      rw [e, this]

/-- No zero stands at the end. -/
def NoTop : List Int → Prop := fun l => l = [] ∨ l.getLastD 0 ≠ 0

theorem dg_eq_nil {b n : Nat} (hb : 2 ≤ b) : dg b n = [] ↔ n = 0 := by
  constructor
  · intro h
    have := val_dg hb n
    rw [h] at this
    simp [val] at this; omega
  · rintro rfl; exact dg_zero b

theorem getLastD_cons_of_ne {d : Int} {l : List Int} (h : l ≠ []) : (d :: l).getLastD 0 = l.getLastD 0 := by
  cases l with
  | nil => exact absurd rfl h
  | cons a l => simp [List.getLastD, List.getLast]

theorem dg_noTop {b : Nat} (hb : 2 ≤ b) (n : Nat) : NoTop (dg b n) := by
  induction n using Nat.strongRecOn with
  | _ n ih =>
    by_cases hn : n = 0
    · subst hn; exact .inl (dg_zero b)
    · rw [dg_pos hb (by omega)]
      refine .inr ?_
      have hd := ih (n / b) (Nat.div_lt_self (by omega) (by omega))
      by_cases h0 : dg b (n / b) = []
      · rw [h0]
        have : n / b = 0 := (dg_eq_nil hb).1 h0
        have hlt : n < b := by
          rcases Nat.div_eq_zero_iff.1 this with h | h <;> omega
        rw [Nat.mod_eq_of_lt hlt]
        simp [List.getLastD]; omega
      · rw [getLastD_cons_of_ne h0]
        exact hd.resolve_left h0

/-- Canonical digits are told by their value. -/
theorem canon {b : Nat} (hb : 2 ≤ b) : ∀ (l : List Int), InR b l → NoTop l → l = dg b (val b l).toNat
  | [], _, _ => by simp [val, dg_zero]
  | d :: l, h, ht => by
    have h1 := h d (List.mem_cons_self ..)
    have h2 := val_nonneg h.tail
    have hl : NoTop l := by
      by_cases h0 : l = []
      · exact .inl h0
      · refine .inr ?_
        rcases ht with ht | ht
        · cases ht
        · rwa [getLastD_cons_of_ne h0] at ht
    have ih := canon hb l h.tail hl
    obtain ⟨d', rfl⟩ := Int.eq_ofNat_of_zero_le h1.1
    obtain ⟨m, hm⟩ := Int.eq_ofNat_of_zero_le h2
    rw [val_cons]
    rw [hm] at ih ⊢
    have e : ((d' : Int) + (b : Int) * (m : Int)).toNat = d' + b * m := by
      have : (d' : Int) + (b : Int) * (m : Int) = ((d' + b * m : Nat) : Int) := by simp
      rw [this, Int.toNat_natCast]
    have hd : d' < b := by omega
    have hpos : 0 < d' + b * m := by
      rcases Nat.eq_zero_or_pos m with h0 | h0
      · subst h0
        have hl0 : l = [] := by rw [ih]; simp [dg_zero]
        subst hl0
        rcases ht with ht | ht
        · cases ht
        · simp [List.getLastD] at ht; omega
      · have := Nat.mul_pos (show 0 < b by omega) h0
        omega
    rw [e, dg_pos hb hpos]
    have e1 : (d' + b * m) % b = d' := by rw [Nat.add_mul_mod_self_left, Nat.mod_eq_of_lt hd]
    have e2 : (d' + b * m) / b = m := by rw [Nat.add_mul_div_left _ _ (by omega), Nat.div_eq_of_lt hd]; omega
    rw [e1, e2, ih]
    simp

theorem canon_nat {b : Nat} (hb : 2 ≤ b) {l : List Int} {n : Nat} (h : InR b l) (ht : NoTop l) (hv : val b l = (n : Int)) : l = dg b n := by
  have := canon hb l h ht
  rw [hv, Int.toNat_natCast] at this
  exact this

theorem noTop_of_last {l : List Int} (k : Nat) (hk : l.length = k + 1) (h : l.getD k 0 ≠ 0) : NoTop l := by
  refine .inr ?_
  have hne : l ≠ [] := by intro e; rw [e] at hk; simp at hk
  rw [List.getLastD_eq_getLast?, List.getLast?_eq_getElem?, hk]
  simpa [List.getD_eq_getElem?_getD] using h

theorem last_of_noTop {l : List Int} (h : NoTop l) (k : Nat) (hk : l.length = k + 1) : l.getD k 0 ≠ 0 := by
  rcases h with h | h
  · rw [h] at hk; simp at hk
  · rw [List.getLastD_eq_getLast?, List.getLast?_eq_getElem?, hk] at h
    simpa [List.getD_eq_getElem?_getD] using h

/-- Where the rest are zeros the value is that of the beginning. -/
theorem val_take_zeros (b : Nat) (l : List Int) (k : Nat) (hk : k ≤ l.length) (h : ∀ j, k ≤ j → l.getD j 0 = 0) : val b (l.take k) = val b l := by
  have key : ∀ d, k + d ≤ l.length → val b (l.take (k + d)) = val b (l.take k) := by
    intro d
    induction d with
    | zero => intro _; rfl
    | succ d ih =>
      intro hd
      rw [← Nat.add_assoc, val_take_succ, h (k + d) (by omega), ih (by omega)]
      simp
  have := key (l.length - k) (by omega)
  rw [show k + (l.length - k) = l.length from by omega, List.take_length] at this
  exact this.symm

/-- What is left of digits when the zeros at the end have gone. -/
theorem trimmed {b : Nat} (hb : 2 ≤ b) {l : List Int} {n : Nat} (h : InR b l) (hv : val b l = (n : Int)) (k : Nat) (hk : k ≤ l.length) (hz : ∀ j, k ≤ j → l.getD j 0 = 0)
    (ht : k = 0 ∨ l.getD (k - 1) 0 ≠ 0) : l.take k = dg b n := by
  refine canon_nat hb (h.take k) ?_ (by rw [val_take_zeros b l k hk hz, hv])
  rcases ht with rfl | ht
  · exact .inl (by simp)
  · by_cases h0 : k = 0
    · subst h0; exact .inl (by simp)
    · refine noTop_of_last (k - 1) (by rw [List.length_take, Nat.min_eq_left hk]; omega) ?_
      rw [List.getD_eq_getElem?_getD, List.getElem?_take, if_pos (by omega), ← List.getD_eq_getElem?_getD]
      exact ht

theorem dg_length_le {b : Nat} (hb : 2 ≤ b) (n k : Nat) : (dg b n).length ≤ k ↔ n < b ^ k := by
  induction k generalizing n with
  | zero =>
    simp only [Nat.pow_zero, Nat.le_zero, List.length_eq_zero_iff]
    rw [dg_eq_nil hb]; omega
  | succ k ih =>
    by_cases hn : n = 0
    · subst hn
      have : 0 < b ^ (k + 1) := Nat.pow_pos (by omega)
      rw [dg_zero]; simp [this]
    · rw [dg_pos hb (by omega), List.length_cons, Nat.add_le_add_iff_right, ih, Nat.div_lt_iff_lt_mul (by omega), Nat.pow_succ]

theorem dg_length_lt {b : Nat} (hb : 2 ≤ b) (n k : Nat) : k < (dg b n).length ↔ b ^ k ≤ n := by
  have := dg_length_le hb n k
  omega

theorem dg_length_mono {b : Nat} (hb : 2 ≤ b) {m n : Nat} (h : m ≤ n) : (dg b m).length ≤ (dg b n).length := by
  have h1 := (dg_length_le hb n (dg b n).length).1 (Nat.le_refl _)
  exact (dg_length_le hb m _).2 (by omega)

theorem lt_pow_length {b : Nat} (hb : 2 ≤ b) (n : Nat) : n < b ^ (dg b n).length := (dg_length_le hb n _).1 (Nat.le_refl _)

theorem dg_single {b d : Nat} (hb : 2 ≤ b) (h0 : 0 < d) (h1 : d < b) : dg b d = [(d : Int)] := by
  rw [dg_pos hb h0, Nat.mod_eq_of_lt h1, Nat.div_eq_of_lt h1, dg_zero]

theorem dg_cons {b d n : Nat} (hb : 2 ≤ b) (h1 : d < b) (hp : 0 < d + b * n) : dg b (d + b * n) = (d : Int) :: dg b n := by
  have e1 : (d + b * n) % b = d := by rw [Nat.add_mul_mod_self_left, Nat.mod_eq_of_lt h1]
  have e2 : (d + b * n) / b = n := by rw [Nat.add_mul_div_left _ _ (by omega), Nat.div_eq_of_lt h1]; omega
  rw [dg_pos hb hp, e1, e2]

theorem dg_inj {b m n : Nat} (hb : 2 ≤ b) (h : dg b m = dg b n) : m = n := by
  have h1 := val_dg hb m
  have h2 := val_dg hb n
  rw [h] at h1
  omega

/-- Comparing from the top: as far as i the digits above are equal. -/
theorem val_lt_of_top {b : Nat} {l m : List Int} (hl : InR b l) (hm : InR b m) (hlen : l.length = m.length) (i : Nat) (hi : i < l.length)
    (heq : l.drop (i + 1) = m.drop (i + 1)) (hlt : l.getD i 0 < m.getD i 0) : val b l < val b m := by
  rw [val_take_drop b l i (by omega), val_take_drop b m i (by omega), val_drop b l i hi, val_drop b m i (by omega), heq]
  have h1 := val_lt (hl.take i)
  have h2 := val_nonneg (hm.take i)
  rw [List.length_take, Nat.min_eq_left (by omega)] at h1
  have h3 : (b : Int) ^ i * (l.getD i 0 + 1) ≤ (b : Int) ^ i * m.getD i 0 := Int.mul_le_mul_of_nonneg_left (by omega) (by have : 0 ≤ (b : Int) ^ i := Int.pow_nonneg (by omega); exact this)
  have e1 : (b : Int) ^ i * (l.getD i 0 + (b : Int) * val b (m.drop (i + 1))) = (b : Int) ^ i * l.getD i 0 + (b : Int) ^ i * ((b : Int) * val b (m.drop (i + 1))) := Int.mul_add ..
  have e2 : (b : Int) ^ i * (m.getD i 0 + (b : Int) * val b (m.drop (i + 1))) = (b : Int) ^ i * m.getD i 0 + (b : Int) ^ i * ((b : Int) * val b (m.drop (i + 1))) := Int.mul_add ..
  have e3 : (b : Int) ^ i * (l.getD i 0 + 1) = (b : Int) ^ i * l.getD i 0 + (b : Int) ^ i := by rw [Int.mul_add, Int.mul_one]
  rw [e1, e2]
  omega

end Go.Proofs.YtbjgpbdkofadiaaGreatDoor
