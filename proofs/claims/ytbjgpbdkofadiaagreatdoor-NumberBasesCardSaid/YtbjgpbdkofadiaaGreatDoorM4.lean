/- Bases, roots, powers; the functions at valid integers. -/
import Derived.Laws.IdiomStrings
import Derived.Test.YtbjgpbdkofadiaaGreatDoorM3
import Derived.Test.YtbjgpbdkofadiaaGreatDoorM1
import Derived.Test.YtbjgpbdkofadiaaGreatDoorShelfB
namespace Go.Proofs.YtbjgpbdkofadiaaGreatDoor
set_option linter.unusedVariables false
set_option linter.unusedSimpArgs false

/-- A digit's sign. -/
def chr (d : Nat) : UInt8 := if d < 10 then UInt8.ofNat (48 + d) else UInt8.ofNat (87 + d)
/-- The digits' signs, the most significant one first; nothing for 0. -/
def bdig (b n : Nat) : List UInt8 := (dg b n).reverse.map fun d => chr d.toNat
/-- The text to a base. -/
def btext (b : Nat) (z : Int) : List UInt8 := if z = 0 then [48] else (if z < 0 then [45] else []) ++ bdig b z.natAbs

theorem chr_toNat {d : Nat} (h : d < 36) : (chr d).toNat = if d < 10 then 48 + d else 87 + d := by
  unfold chr
  split
  · rw [UInt8.toNat_ofNat']; omega
  · rw [UInt8.toNat_ofNat']; omega
theorem chr_inj {c d : Nat} (hc : c < 36) (hd : d < 36) (h : chr c = chr d) : c = d := by
  have h1 := congrArg UInt8.toNat h
  rw [chr_toNat hc, chr_toNat hd] at h1
  split at h1 <;> split at h1 <;> omega

theorem bdig_pos {b n : Nat} (hb : 2 ≤ b) (hn : 0 < n) : bdig b n = bdig b (n / b) ++ [chr (n % b)] := by
  unfold bdig
  rw [dg_pos hb hn, List.reverse_cons, List.map_append, List.map_cons, List.map_nil, Int.toNat_natCast]
theorem bdig_zero (b : Nat) : bdig b 0 = [] := by unfold bdig; rw [dg_zero]; rfl

/-- To the base 10: the decimal digits. -/
theorem bdig_ten : ∀ n, 0 < n → bdig 10 n = Lib.decDigits n := by
  intro n
  induction n using Nat.strongRecOn with
  | _ n ih =>
    intro hn
    rw [bdig_pos (by decide) hn]
    by_cases h : n < 10
    · rw [Nat.div_eq_of_lt h, bdig_zero, Nat.mod_eq_of_lt h, Lib.decDigits_one h]
      unfold chr
      rw [if_pos h]; simp
    · rw [ih (n / 10) (by omega) (by omega)]
      conv => rhs; rw [Lib.decDigits, dif_neg h]
      unfold chr
      rw [if_pos (Nat.mod_lt _ (by decide))]
theorem btext_ten (z : Int) : btext 10 z = Lib.itoa z := by
  unfold btext Lib.itoa
  by_cases h0 : z = 0
  · subst h0; rw [if_pos rfl, if_neg (by omega)]; exact decDigits_zero.symm
  · rw [if_neg h0, bdig_ten _ (by omega)]
    by_cases h : z < 0
    · rw [if_pos h, if_pos h]; rfl
    · rw [if_neg h, if_neg h, show z.toNat = z.natAbs by omega]; rfl

/-- What a sign stands for: its index, or none. -/
def idxOf (c : UInt8) : Option Nat := if 48 ≤ c.toNat ∧ c.toNat ≤ 57 then some (c.toNat - 48) else if 97 ≤ c.toNat ∧ c.toNat ≤ 122 then some (c.toNat - 87) else none
theorem idxOf_chr {d : Nat} (h : d < 36) : idxOf (chr d) = some d := by
  have h1 := chr_toNat h
  unfold idxOf
  rw [h1]
  by_cases h2 : d < 10
  · rw [if_pos h2, if_pos (by omega)]; congr 1; omega
  · rw [if_neg h2, if_neg (by omega), if_pos (by omega)]; congr 1; omega
theorem chr_idxOf {c : UInt8} {d : Nat} (h : idxOf c = some d) : d < 36 ∧ chr d = c := by
  unfold idxOf at h
  split at h
  · rename_i h1
    cases h
    refine ⟨by omega, UInt8.toNat_inj.1 ?_⟩
    rw [chr_toNat (by omega), if_pos (by omega)]; omega
  · split at h
    · rename_i h1
      cases h
      refine ⟨by omega, UInt8.toNat_inj.1 ?_⟩
      rw [chr_toNat (by omega), if_neg (by omega)]; omega
    · cases h

/-- The number that signs stand for. -/
def bval (b : Nat) : List UInt8 → Nat := List.foldl (fun acc c => acc * b + (idxOf c).getD 0) 0
theorem bval_nil (b : Nat) : bval b [] = 0 := rfl
theorem bval_snoc (b : Nat) (l : List UInt8) (c : UInt8) : bval b (l ++ [c]) = bval b l * b + (idxOf c).getD 0 := by simp [bval]

/-- All are signs of digits to the base. -/
def bdigs (b : Nat) (l : List UInt8) : Prop := ∀ c ∈ l, ∃ d, idxOf c = some d ∧ d < b

theorem bval_bdig {b : Nat} (hb : 2 ≤ b) (hb2 : b ≤ 36) : ∀ n, bval b (bdig b n) = n := by
  intro n
  induction n using Nat.strongRecOn with
  | _ n ih =>
    rcases Nat.eq_zero_or_pos n with rfl | hn
    · rw [bdig_zero]; rfl
    · have hm : n % b < b := Nat.mod_lt _ (by omega)
      rw [bdig_pos hb hn, bval_snoc, ih (n / b) (Nat.div_lt_self hn hb), idxOf_chr (by omega), Nat.mul_comm]
      exact Nat.div_add_mod n b
theorem bdigs_bdig {b : Nat} (hb : 2 ≤ b) (hb2 : b ≤ 36) (n : Nat) : bdigs b (bdig b n) := by
  induction n using Nat.strongRecOn with
  | _ n ih =>
    rcases Nat.eq_zero_or_pos n with rfl | hn
    · rw [bdig_zero]; intro c hc; cases hc
    · have hm : n % b < b := Nat.mod_lt _ (by omega)
      rw [bdig_pos hb hn]
      intro c hc
      rcases List.mem_append.1 hc with hc | hc
      · exact ih (n / b) (Nat.div_lt_self hn hb) c hc
      · obtain rfl := List.mem_singleton.1 hc
        exact ⟨n % b, idxOf_chr (by omega), hm⟩
theorem bdig_ne {b n : Nat} (hb : 2 ≤ b) (hn : 0 < n) : bdig b n ≠ [] := by rw [bdig_pos hb hn]; simp
theorem bdig_head {b : Nat} (hb : 2 ≤ b) (hb2 : b ≤ 36) : ∀ n, 0 < n → (bdig b n).head? ≠ some 48 := by
  intro n
  induction n using Nat.strongRecOn with
  | _ n ih =>
    intro hn
    rw [bdig_pos hb hn]
    rcases Nat.eq_zero_or_pos (n / b) with h | h
    · have hlt : n < b := by
        rcases Nat.lt_or_ge n b with h2 | h2
        · exact h2
        · have := Nat.div_pos h2 (by omega); omega
      rw [h, bdig_zero, Nat.mod_eq_of_lt hlt]
      intro e
      have e2 : chr n = 48 := by simpa using e
      have := congrArg UInt8.toNat e2
      rw [chr_toNat (by omega)] at this
      have h48 : (48 : UInt8).toNat = 48 := rfl
      rw [h48] at this
      split at this <;> omega
    · rw [head_append _ (bdig_ne hb h)]
      exact ih (n / b) (Nat.div_lt_self hn hb) h
theorem bval_append (b : Nat) (l m : List UInt8) : bval b (l ++ m) = bval b l * b ^ m.length + bval b m := by
  have key : ∀ (m : List UInt8) (acc : Nat), List.foldl (fun acc c => acc * b + (idxOf c).getD 0) acc m = acc * b ^ m.length + bval b m := by
    intro m
    induction m with
    | nil => intro acc; simp [bval]
    | cons c m ih =>
      intro acc
      have h2 : bval b (c :: m) = ((idxOf c).getD 0) * b ^ m.length + bval b m := by
        have := ih ((idxOf c).getD 0)
        simpa [bval] using this
      rw [List.foldl_cons, ih, h2, List.length_cons, Nat.pow_succ]
      grind
  have := key m (bval b l)
  simpa [bval] using this
/-- The value grows with the digits. -/
theorem bval_take_le {b : Nat} (hb : 2 ≤ b) (l : List UInt8) (i : Nat) : bval b (l.take i) ≤ bval b l := by
  conv => rhs; rw [← List.take_append_drop i l, bval_append]
  have : 0 < b ^ (l.drop i).length := Nat.pow_pos (by omega)
  have := Nat.le_mul_of_pos_right (bval b (l.take i)) this
  omega
/-- Digits without a 0 ahead are the digits of their value. -/
theorem bdig_bval {b : Nat} (hb : 2 ≤ b) (hb2 : b ≤ 36) : ∀ (n : Nat) (l : List UInt8), l.length = n + 1 → bdigs b l → l.head? ≠ some 48 → 0 < bval b l ∧ bdig b (bval b l) = l := by
  intro n
  induction n with
  | zero =>
    intro l hl hd hh
    match l, hl with
    | [c], _ =>
      obtain ⟨d, h1, h2⟩ := hd c (by simp)
      obtain ⟨h3, h4⟩ := chr_idxOf h1
      have hv : bval b [c] = d := by simp [bval, h1]
      have h0 : 0 < d := by
        rcases Nat.eq_zero_or_pos d with h | h
        · exfalso; apply hh; rw [← h4, h]; rfl
        · exact h
      rw [hv, bdig_pos hb h0, Nat.div_eq_of_lt h2, bdig_zero, Nat.mod_eq_of_lt h2, h4]
      exact ⟨h0, rfl⟩
  | succ n ih =>
    intro l hl hd hh
    have hne : l ≠ [] := by intro e; rw [e] at hl; simp at hl
    obtain ⟨m, c, rfl⟩ : ∃ m c, l = m ++ [c] := ⟨l.dropLast, l.getLast hne, (List.dropLast_concat_getLast hne).symm⟩
    have hml : m.length = n + 1 := by simpa using hl
    have hmne : m ≠ [] := by intro e; rw [e] at hml; simp at hml
    rw [head_append _ hmne] at hh
    obtain ⟨h5, h6⟩ := ih m hml (fun c hc => hd c (List.mem_append_left _ hc)) hh
    obtain ⟨d, h1, h2⟩ := hd c (by simp)
    obtain ⟨h3, h4⟩ := chr_idxOf h1
    have hv : bval b (m ++ [c]) = bval b m * b + d := by rw [bval_snoc, h1]; rfl
    have hp : 0 < bval b m * b + d := by
      have := Nat.mul_pos h5 (show 0 < b by omega)
      omega
    rw [hv]
    refine ⟨hp, ?_⟩
    rw [bdig_pos hb hp]
    have e1 : (bval b m * b + d) / b = bval b m := by
      rw [Nat.mul_comm, Nat.mul_add_div (by omega), Nat.div_eq_of_lt h2]; rfl
    have e2 : (bval b m * b + d) % b = d := by rw [Nat.mul_comm, Nat.mul_add_mod, Nat.mod_eq_of_lt h2]
    rw [e1, e2, h6, h4]

/-- What FromBase takes: digits behind a sign, without a 0 ahead. -/
def formB (b : Nat) (l : List UInt8) : Prop := Lib.trimPrefix l [45] ≠ [] ∧ ¬ ((Lib.trimPrefix l [45]).head? = some 48 ∧ l ≠ [48]) ∧ bdigs b (Lib.trimPrefix l [45])
/-- The integer. -/
def fromB (b : Nat) (l : List UInt8) : Int := if l.head? = some 45 then -(bval b (Lib.trimPrefix l [45]) : Int) else (bval b (Lib.trimPrefix l [45]) : Int)

theorem not_minus_bdig {b : Nat} (hb : 2 ≤ b) (hb2 : b ≤ 36) (n : Nat) : (bdig b n).head? ≠ some 45 := by
  intro e
  cases h : bdig b n with
  | nil => rw [h] at e; cases e
  | cons c r =>
    rw [h] at e
    have hc : c = 45 := by simpa using e
    obtain ⟨d, h1, h2⟩ := bdigs_bdig hb hb2 n c (by rw [h]; simp)
    rw [hc] at h1
    cases h1

/-- What ToBase writes, FromBase takes. -/
theorem formB_btext {b : Nat} (hb : 2 ≤ b) (hb2 : b ≤ 36) (z : Int) : formB b (btext b z) ∧ fromB b (btext b z) = z := by
  unfold formB fromB btext
  by_cases h0 : z = 0
  · subst h0
    rw [if_pos rfl]
    rw [trim_other (by decide)]
    refine ⟨⟨by simp, by simp, ?_⟩, ?_⟩
    · intro c hc
      obtain rfl := List.mem_singleton.1 hc
      exact ⟨0, rfl, by omega⟩
    · rw [if_neg (by decide)]; simp [bval, idxOf]
  · rw [if_neg h0]
    have hp : 0 < z.natAbs := by omega
    by_cases h : z < 0
    · rw [if_pos h]
      rw [show [45] ++ bdig b z.natAbs = 45 :: bdig b z.natAbs from rfl, trim_minus]
      refine ⟨⟨bdig_ne hb hp, fun ⟨e, _⟩ => bdig_head hb hb2 _ hp e, bdigs_bdig hb hb2 _⟩, ?_⟩
      rw [if_pos (by rfl), bval_bdig hb hb2]; omega
    · rw [if_neg h, List.nil_append, trim_other (not_minus_bdig hb hb2 _)]
      refine ⟨⟨bdig_ne hb hp, fun ⟨e, _⟩ => bdig_head hb hb2 _ hp e, bdigs_bdig hb hb2 _⟩, ?_⟩
      rw [if_neg (not_minus_bdig hb hb2 _), bval_bdig hb hb2]; omega

/-- What FromBase takes, ToBase writes. -/
theorem btext_fromB {b : Nat} (hb : 2 ≤ b) (hb2 : b ≤ 36) {l : List UInt8} (h : formB b l) : btext b (fromB b l) = l := by
  obtain ⟨h1, h2, h3⟩ := h
  by_cases hz : l = [48]
  · subst hz
    unfold fromB
    rw [trim_other (by decide), if_neg (by decide), show bval b [48] = 0 by simp [bval, idxOf]]
    rfl
  · have hh : (Lib.trimPrefix l [45]).head? ≠ some 48 := fun e => h2 ⟨e, hz⟩
    obtain ⟨n, hn⟩ : ∃ n, (Lib.trimPrefix l [45]).length = n + 1 := ⟨(Lib.trimPrefix l [45]).length - 1, by have := List.length_pos_iff.2 h1; omega⟩
    obtain ⟨h4, h5⟩ := bdig_bval hb hb2 n _ hn h3 hh
    unfold fromB btext
    by_cases hm : l.head? = some 45
    · rw [if_pos hm, if_neg (by omega), if_pos (by omega), Int.natAbs_neg, Int.natAbs_natCast, h5]
      cases l with
      | nil => cases hm
      | cons c r =>
        have hc : c = 45 := by simpa using hm
        rw [hc, trim_minus]; rfl
    · rw [if_neg hm, if_neg (by omega), if_neg (by omega), Int.natAbs_natCast, h5, trim_other hm]; rfl

end Go.Proofs.YtbjgpbdkofadiaaGreatDoor

namespace Go.Proofs.YtbjgpbdkofadiaaGreatDoor
set_option linter.unusedVariables false
set_option linter.unusedSimpArgs false
open Go.RowKit Go.Shelf Go.Proofs

/-- A slice of one digit, newly made. -/
theorem dg_lit (W : World) (d : Nat) (t : TypeId) (h0 : 0 < d) (h1 : d < 1000000000) : Dg 1000000000 (W.alloc (.cells #[.int .i64 (d : Int)] t)) (.slice (some ⟨W.heap.size, 0, none⟩) 1 1) d := by
  unfold Dg
  rw [dg_single (b := 1000000000) (d := d) (by decide) h0 h1]
  exact ⟨_, _, rfl, by simp, by omega, lit_row W d t⟩

/-- What Root makes. -/
noncomputable def rootOut (x : Int) : Out := if x < 0 then .err 5 else textOut (root x.natAbs)

theorem decVal_zeros : ∀ k, decVal (Lib.repeatL [48] k) = 0
  | 0 => rfl
  | k + 1 => by
    rw [Lib.repeatL, decVal_append, decVal_zeros k, show decVal [48] = 0 from rfl]
    simp
theorem zeros_dig : ∀ k, ∀ b ∈ Lib.repeatL [48] k, isDig b
  | 0, b, h => by cases h
  | k + 1, b, h => by
    rw [Lib.repeatL] at h
    rcases List.mem_append.1 h with h | h
    · obtain rfl := List.mem_singleton.1 h; exact ⟨by decide, by decide⟩
    · exact zeros_dig k b h
/-- The text of a power of 10. -/
theorem ten_text (k : Nat) : decVal ([49] ++ Lib.repeatL [48] k) = 10 ^ k ∧ ∀ b ∈ [49] ++ Lib.repeatL [48] k, isDig b := by
  refine ⟨?_, fun b h => ?_⟩
  · rw [decVal_append, decVal_zeros, Lib.repeatL_length]
    have : decVal [49] = 1 := rfl
    rw [this]; simp
  · rcases List.mem_append.1 h with h | h
    · obtain rfl := List.mem_singleton.1 h; exact ⟨by decide, by decide⟩
    · exact zeros_dig k b h
/-- The start lies above the root. -/
theorem root_start {n l : Nat} (h : n < 10 ^ l) : root n ≤ 10 ^ ((l + 1) / 2) := by
  rcases Nat.lt_or_ge (10 ^ ((l + 1) / 2)) (root n) with h1 | h1
  · exfalso
    have h2 := root_le n
    have h3 : 10 ^ ((l + 1) / 2) * 10 ^ ((l + 1) / 2) ≤ root n * root n := Nat.mul_le_mul (Nat.le_of_lt h1) (Nat.le_of_lt h1)
    rw [← Nat.pow_add] at h3
    have h4 : 10 ^ l ≤ 10 ^ ((l + 1) / 2 + (l + 1) / 2) := Nat.pow_le_pow_right (by decide) (by omega)
    omega
  · exact h1
theorem root_pos {n : Nat} (h : 0 < n) : 0 < root n := by
  have := root_lt n
  rcases Nat.eq_zero_or_pos (root n) with h0 | h0
  · rw [h0] at this; omega
  · exact h0
theorem dg_len_small {n : Nat} (h : n < 10 ^ 250) : (dg 1000000000 n).length ≤ 999999 := by
  refine Nat.le_trans ((dg_length_le (by decide) n 28).2 (Nat.lt_of_lt_of_le h ?_)) (by decide)
  rw [show (1000000000 : Nat) = 10 ^ 9 from rfl, ← Nat.pow_mul]
  exact Nat.pow_le_pow_right (by decide) (by decide)

set_option maxHeartbeats 1000000 in
theorem root1_neg (lv : Value) (x : Int) (w : World) (h : Whs w lv [x]) (hn : x < 0) :
    Calls Tryz.prog 71 #[lv] w fun e w' => e = (Out.err 5).end_ ∧ Below w.heap.size w w' := by
  obtain ⟨a, c, p, rfl, c0, c1, hd⟩ := h.first
  rw [decide_eq_true hn] at c0
  obtain ⟨A6, n6, c6, rfl⟩ := hd.form
  clear h hd hn
  go_enter Tryz.func71, Tryz.ntmps71
  go_wp2_with fail
  exact ⟨rfl, rfl, (by repeat (first | exact Below.refl _ _ | exact HB.out | (refine Below.alloc ?_ (by first | (simp; done) | (simp; omega)) _) | (refine Below.setCell ?_ (by first | (simp; done) | (simp; omega)) _) | refine Below.drew ?_ | refine below_drewN ?_ _))⟩

set_option maxHeartbeats 1000000 in
theorem root1_zero (lv : Value) (w : World) (h : Whs w lv [0]) :
    Calls Tryz.prog 71 #[lv] w fun e w' => e = (Out.ok (.string ⟨#[48]⟩)).end_ ∧ Below w.heap.size w w' := by
  obtain ⟨a, c, p, rfl, c0, c1, hd⟩ := h.first
  rw [decide_eq_false (by omega)] at c0
  obtain ⟨A6, c6, rfl, -, -, -⟩ := hd
  rw [show (0 : Int).natAbs = 0 from rfl, dg_zero] at c1
  simp only [List.length_nil] at c1
  clear h
  go_enter Tryz.func71, Tryz.ntmps71
  go_wp2_with fail
  go_ret
  exact ⟨rfl, (by repeat (first | exact Below.refl _ _ | exact HB.out | (refine Below.alloc ?_ (by first | (simp; done) | (simp; omega)) _) | (refine Below.setCell ?_ (by first | (simp; done) | (simp; omega)) _) | refine Below.drew ?_ | refine below_drewN ?_ _))⟩

set_option maxRecDepth 100000 in
set_option maxHeartbeats 2000000 in
theorem root1_pos (lv : Value) (x : Int) (w : World) (h : Whs w lv [x]) (ht : Tabs w) (hx : x.natAbs < 10 ^ 200) (hp : 0 < x) :
    Calls Tryz.prog 71 #[lv] w fun e w' => e = (textOut (root x.natAbs)).end_ ∧ Below w.heap.size w w' := by
  obtain ⟨a, c, p, rfl, c0, c1, hd⟩ := h.first
  rw [decide_eq_false (by omega)] at c0
  have HT := Lib.hid ht
  obtain ⟨N, hN⟩ : ∃ N, x.natAbs = N := ⟨_, rfl⟩
  have hN0 : 0 < N := by omega
  rw [hN] at hd hx ⊢
  have HD := Lib.hid hd
  have hl0 : 0 < (dg 1000000000 N).length := List.length_pos_iff.2 fun e => by have := (dg_eq_nil (by decide)).1 e; omega
  have HLN : Hid ((dg 1000000000 N).length ≤ 1000000) := Nat.le_trans (dg_len_small (Nat.lt_of_lt_of_le hx (Nat.pow_le_pow_right (by decide) (by decide)))) (by decide)
  obtain ⟨L, hL⟩ : ∃ L, (dg 1000000000 N).length = L := ⟨_, rfl⟩
  obtain ⟨A6, c6, hp6, -, -, -⟩ := hd
  rw [hL] at hp6 hl0
  subst hp6
  have hl1 : ((L : Int) == 0) = false := by simp; omega
  -- the decimal digits
  obtain ⟨S, hS⟩ : ∃ S : ByteArray, ⟨(Lib.decDigits N).toArray⟩ = S := ⟨_, rfl⟩
  have hss : S.size = (Lib.decDigits N).length := by rw [← hS]; simp [ByteArray.size]
  have hs200 : S.size ≤ 200 := by rw [hss]; exact (len200 N).2 hx
  have hs10 : N < 10 ^ S.size := by rw [hss, Lib.decDigits_length]; exact Lib.lt_pow_nDigits N
  have HS := Lib.hid hS
  obtain ⟨k, hk⟩ : ∃ k, (S.size + 1) / 2 = k := ⟨_, rfl⟩
  have hk2 : ((S.size : Int) + 1).tdiv 2 = (k : Int) := by rw [Int.tdiv_eq_ediv_of_nonneg (by omega), ← hk]; omega
  have hk100 : k ≤ 100 := by omega
  have HK := Lib.hid hk
  have HR0 : Hid (root N ≤ 10 ^ k) := by show _ ≤ _; rw [← hk]; exact root_start hs10
  have HX := Lib.hid hx
  have HRP := Lib.hid (root_pos hN0)
  obtain ⟨R, hR⟩ : ∃ R : ByteArray, ⟨(Lib.repeatL [48] k).toArray⟩ = R := ⟨_, rfl⟩
  obtain ⟨U, hU⟩ : ∃ U : ByteArray, (⟨#[49]⟩ : ByteArray) ++ R = U := ⟨_, rfl⟩
  have hUL : U.data.toList = [49] ++ Lib.repeatL [48] k := by rw [← hU, ← hR, ByteArray.data_append]; simp
  have hRs : R.size ≤ 100 := by rw [← hR, rep_size]; exact hk100
  have HR := Lib.hid hR
  have HU := Lib.hid hU
  have HUL := Lib.hid hUL
  clear h ht hS hss hs10 hx hN0 hp hN hk hU hUL hL hR
  go_enter Tryz.func71, Tryz.ntmps71
  go_wp2_with (first
    | (go_at_call 74; refine (string_c _ N _ HD.out HT.out HLN.out).mono ?_; rintro e W2 ⟨rfl, hbz⟩; rw [HS.out]; have HB2 := Lib.hid hbz; clear hbz)
    | (go_at_call 73; refine (Tryz.strings_Repeat ⟨#[48]⟩ k _ (by omega) (by show 1 * k ≤ _; omega)).mono ?_; rintro e W3 ⟨rfl, hbz⟩; rw [show (Lib.repeatL (ByteArray.mk #[48]).data.toList k) = Lib.repeatL [48] k from rfl, HR.out]; have HB3 := Lib.hid (below_then' HB2.out hbz); clear hbz)
    | (go_at_call 72; rw [HU.out]; refine (decimal_c U _ (by rw [HUL.out]; exact (ten_text k).2) (by rw [HUL.out, List.length_append, Lib.repeatL_length]; simp; omega)).mono ?_; rintro e W4 ⟨u, rfl, hu, -, hbz⟩; rw [HUL.out, (ten_text k).1] at hu; obtain ⟨A5, n5, c5, rfl⟩ := hu.form; have HU4 := Lib.hid hu; have HB4 := Lib.hid (below_then' HB3.out hbz); clear hu hbz))
  have HK100 := Lib.hid hk100
  clear HUL HU HR HS HB2 HB3 hk2 hs200 hk100
  go_loopg [4] (10 ^ k) (fun gk xv wr => ∃ X : Nat, gk = X ∧ Hid (Dg 1000000000 wr xv X ∧ root N ≤ X ∧ X ≤ 10 ^ k) ∧ Hid (Below w.heap.size w wr))
  case atStart => exact ⟨10 ^ k, rfl, ⟨HU4.out, HR0.out, Nat.le_refl _⟩, HB4.out⟩
  case round =>
    obtain ⟨X, hgk, HG, HB⟩ := hrel
    have HGK := Lib.hid hgk
    obtain ⟨A7, n7, c7, rfl⟩ := HG.out.1.form
    have hX0 : 0 < X := Nat.lt_of_lt_of_le HRP.out HG.out.2.1
    have hXk : X ≤ 10 ^ 100 := Nat.le_trans HG.out.2.2 (Nat.pow_le_pow_right (by decide) HK100.out)
    have hN250 : N < 10 ^ 200 := HX.out
    have HX0 := Lib.hid hX0
    have HLX : Hid ((dg 1000000000 X).length ≤ 999999) := dg_len_small (by omega)
    have HLS : Hid ((dg 1000000000 (X + N / X)).length ≤ 1000000) := Nat.le_trans (dg_len_small (by have := Nat.div_le_self N X; omega)) (by decide)
    have HL2 : Hid ((dg 1000000000 2).length ≤ 999999) := dg_len_small (by decide)
    have HLX1 : Hid ((dg 1000000000 X).length ≤ 1000000) := Nat.le_trans HLX.out (by decide)
    have HLQ : Hid ((dg 1000000000 (N / X)).length ≤ 1000000) := Nat.le_trans (dg_length_mono (by decide) (Nat.div_le_self _ _)) HLN.out
    have HNX : Hid (root N ≤ (X + N / X) / 2) := newton_ge (root_le N) hX0
    have HXX : Hid (textOut (X : Int) = .ok (.string ⟨(Lib.itoa (X : Int)).toArray⟩)) := if_pos (by rw [Int.natAbs_natCast]; omega)
    have HWX : Hid (Wh wr (.agg #[.bool false, .slice A7 n7 c7]) (X : Int)) := ⟨_, by rw [decide_eq_false (by omega)], HG.out.1⟩
    have HTW := Lib.hid (HT.out.below HB.out)
    have HDW := Lib.hid (HD.out.below HB.out)
    have HLXI : Hid ((dg 1000000000 (X : Int).natAbs).length ≤ 1000000) := by show _ ≤ _; rw [Int.natAbs_natCast]; exact HLX1.out
    obtain ⟨s, hs⟩ : ∃ s, sgn ((((X + N / X) / 2 : Nat) : Int) - X) = s := ⟨_, rfl⟩
    have HSG := Lib.hid hs
    by_cases hlt : (X + N / X) / 2 < X
    · have hs0 : ¬ 0 ≤ s := by rw [← hs, sgn_lt (by omega)]; decide
      have HLT := Lib.hid hlt
      clear hgk hX0 hXk hN250 hs hlt
      go_wp2_with (first | (go_at_call 75; refine (over_c _ _ (X + N / X) 2 _ (HQ3.out.below ((Below.refl _ _).alloc (Nat.le_refl _) _)) (dg_lit V3 2 _ (by decide) (by decide)) (by decide) HLS.out HL2.out).mono ?_; rintro e V4 ⟨q, r, rfl, hq, hr, -, -, hbz⟩; obtain ⟨A8, n8, c8, rfl⟩ := hq.form; obtain ⟨A9, n9, c9, rfl⟩ := hr.form; have HQ4 := Lib.hid hq; have HB4 := Lib.hid (below_then' (HB3.out.alloc HB3.out.size _) hbz); have HBX4 := Lib.hid (below_then' (HBX3.out.alloc HBX3.out.size _) hbz); clear hq hr hbz) | (go_at_call 75; refine (over_c _ _ N X _ HDW.out HG.out.1 HX0.out HLN.out HLX.out).mono ?_; rintro e V2 ⟨q, r, rfl, hq, hr, -, -, hbz⟩; obtain ⟨A8, n8, c8, rfl⟩ := hq.form; obtain ⟨A9, n9, c9, rfl⟩ := hr.form; have HQ2 := Lib.hid hq; have HB2 := Lib.hid (below_then' HB.out hbz); have HBX2 := Lib.hid hbz; clear hq hr hbz) | (go_at_call 76; refine (plus_c _ _ X (N / X) _ (HG.out.1.below HBX2.out) HQ2.out HLX1.out HLQ.out).mono ?_; rintro e V3 ⟨q, rfl, hq, -, hbz⟩; obtain ⟨A8, n8, c8, rfl⟩ := hq.form; have HQ3 := Lib.hid hq; have HB3 := Lib.hid (below_then' HB2.out hbz); have HBX3 := Lib.hid (below_then' HBX2.out hbz); clear hq hbz) | (go_at_call 77; refine (compare_c _ _ ((X + N / X) / 2) X _ HQ4.out (HG.out.1.below HBX4.out)).mono ?_; rintro e V5 ⟨he, hbz⟩; rw [HSG.out] at he; subst he; have HNX2 := Lib.hid (HQ4.out.below hbz); have HB5 := Lib.hid (below_then' HB4.out hbz); have HB6 := Lib.hid (below_then' HBX4.out hbz); clear hbz))
      go_roundg ((X + N / X) / 2)
      case measure => have h1 := HGK.out; have h2 := HLT.out; omega
      case rel => exact ⟨_, rfl, ⟨HNX2.out, HNX.out, Nat.le_trans (Nat.le_of_lt HLT.out) HG.out.2.2⟩, HB5.out⟩
    · have hs0 : 0 ≤ s := by
        rw [← hs]
        rcases Nat.eq_or_lt_of_le (Nat.not_lt.1 hlt) with h | h
        · rw [← h, Int.sub_self]; decide
        · rw [sgn_gt (by omega)]; decide
      have HE : Hid (root N = X) := (newton_done (root_lt N) hX0 HG.out.2.1 (Nat.not_lt.1 hlt)).symm
      clear hgk hX0 hXk hN250 hs hlt
      go_wp2_with (first
        | (go_at_call 75; refine (over_c _ _ (X + N / X) 2 _ (HQ3.out.below ((Below.refl _ _).alloc (Nat.le_refl _) _)) (dg_lit V3 2 _ (by decide) (by decide)) (by decide) HLS.out HL2.out).mono ?_; rintro e V4 ⟨q, r, rfl, hq, hr, -, -, hbz⟩; obtain ⟨A8, n8, c8, rfl⟩ := hq.form; obtain ⟨A9, n9, c9, rfl⟩ := hr.form; have HQ4 := Lib.hid hq; have HB4 := Lib.hid (below_then' (HB3.out.alloc HB3.out.size _) hbz); have HBX4 := Lib.hid (below_then' (HBX3.out.alloc HBX3.out.size _) hbz); clear hq hr hbz)
        | (go_at_call 75; refine (over_c _ _ N X _ HDW.out HG.out.1 HX0.out HLN.out HLX.out).mono ?_; rintro e V2 ⟨q, r, rfl, hq, hr, -, -, hbz⟩; obtain ⟨A8, n8, c8, rfl⟩ := hq.form; obtain ⟨A9, n9, c9, rfl⟩ := hr.form; have HQ2 := Lib.hid hq; have HB2 := Lib.hid (below_then' HB.out hbz); have HBX2 := Lib.hid hbz; clear hq hr hbz)
        | (go_at_call 76; refine (plus_c _ _ X (N / X) _ (HG.out.1.below HBX2.out) HQ2.out HLX1.out HLQ.out).mono ?_; rintro e V3 ⟨q, rfl, hq, -, hbz⟩; obtain ⟨A8, n8, c8, rfl⟩ := hq.form; have HQ3 := Lib.hid hq; have HB3 := Lib.hid (below_then' HB2.out hbz); have HBX3 := Lib.hid (below_then' HBX2.out hbz); clear hq hbz)
        | (go_at_call 77; refine (compare_c _ _ ((X + N / X) / 2) X _ HQ4.out (HG.out.1.below HBX4.out)).mono ?_; rintro e V5 ⟨he, hbz⟩; rw [HSG.out] at he; subst he; have HNX2 := Lib.hid (HQ4.out.below hbz); have HB5 := Lib.hid (below_then' HB4.out hbz); have HB6 := Lib.hid (below_then' HBX4.out hbz); clear hbz)
        | (go_at_call 58; refine (text_out _ (X : Int) _ (HWX.out.below HB6.out) (HTW.out.below HB6.out) HLXI.out).mono ?_; rw [HXX.out]; rintro e W7 ⟨he, hbz⟩; have he2 : e = .returned (.string ⟨(Lib.itoa (X : Int)).toArray⟩) := he; subst he2; have HB7 := Lib.hid (below_then' HB5.out hbz); clear he hbz))
      go_ret
      exact ⟨by rw [HE.out, HXX.out]; rfl, HB7.out⟩

theorem root1_c (lv : Value) (x : Int) (w : World) (h : Whs w lv [x]) (ht : Tabs w) (hx : x.natAbs < 10 ^ 200) :
    Calls Tryz.prog 71 #[lv] w fun e w' => e = (rootOut x).end_ ∧ Below w.heap.size w w' := by
  rcases Int.lt_trichotomy x 0 with hn | hn | hn
  · rw [show rootOut x = .err 5 from if_pos hn]; exact root1_neg lv x w h hn
  · subst hn
    rw [show rootOut 0 = .ok (.string ⟨#[48]⟩) from by
      unfold rootOut textOut
      have h0 : root (0 : Int).natAbs = 0 := root_eq (by decide) (by decide)
      rw [if_neg (by decide), h0, if_pos (by decide), show Lib.itoa ((0 : Nat) : Int) = [48] from by rw [Lib.itoa, if_neg (by decide)]; exact decDigits_zero]]
    exact root1_zero lv w h
  · rw [show rootOut x = textOut (root x.natAbs) from if_neg (by omega)]
    exact root1_pos lv x w h ht hx hn

set_option maxHeartbeats 1000000 in
theorem numRoot_c (S : ByteArray) (w : World) (ht : Tabs w) : Calls Tryz.prog 33 #[.string S] w (Un S rootOut (.string ⟨#[]⟩) w) := by
  have HT := Lib.hid ht
  clear ht
  go_enter Tryz.func33, Tryz.ntmps33
  go_wp2_with (go_at_call 55; refine (withStr_c 71 #[] (enters_of Tryz.func71 (by kernel_rfl) rfl) _ [S] (fun zs => rootOut (zs.headD 0)) _ (strs_one w S _) (by simp) ?hf).mono ?_)
  case hf =>
    intro zs hz W lv hb hw
    obtain ⟨x, rfl, hx⟩ := one_zs hz
    exact root1_c lv x W hw (HT.out.below (Below.trans ((Below.refl w.heap.size w).alloc (Nat.le_refl _) _) (hb.mono (by simp)))) hx.2
  rintro e w' h
  obtain ⟨a, b, rfl, hr⟩ := with_one (f := rootOut) h ((Below.refl w.heap.size w).alloc (Nat.le_refl _) _)
  have HR := Lib.hid hr
  clear h hr
  go_wp2
  go_ret2
  exact HR.out

end Go.Proofs.YtbjgpbdkofadiaaGreatDoor

namespace Go.Proofs.YtbjgpbdkofadiaaGreatDoor
set_option linter.unusedVariables false
set_option linter.unusedSimpArgs false
open Go.RowKit Go.Shelf Go.Proofs

/-- What Pow makes. -/
def powOut (x n : Int) : Out := if n < 0 then .err 5 else textOut (x ^ n.toNat)

set_option maxHeartbeats 1000000 in
theorem pow1_neg (lv : Value) (b : Addr) (x n : Int) (w : World) (h : Whs w lv [x]) (hb : w.cell? b = some (.int .i64 n)) (hn : n < 0) :
    Calls Tryz.prog 59 #[lv, .pointer (some b)] w fun e w' => e = (Out.err 5).end_ ∧ Below w.heap.size w w' := by
  obtain ⟨a, c, p, rfl, c0, c1, hd⟩ := h.first
  clear h hd c0 c1
  go_enter Tryz.func59, Tryz.ntmps59
  go_wp2_with fail
  exact ⟨rfl, rfl, (by repeat (first | exact Below.refl _ _ | exact HB.out | (refine Below.alloc ?_ (by first | (simp; done) | (simp; omega)) _) | (refine Below.setCell ?_ (by first | (simp; done) | (simp; omega)) _) | refine Below.drew ?_ | refine below_drewN ?_ _))⟩

theorem addr_zero (a : Addr) : a.add 0 = a := by simp [Addr.add]

theorem dg_one : dg 1000000000 1 = [1] := dg_single (b := 1000000000) (d := 1) (by decide) (by decide) (by decide)

set_option maxHeartbeats 2000000 in
theorem pow1_zero (lv : Value) (b : Addr) (n : Int) (w : World) (h : Whs w lv [0]) (ht : Tabs w) (hb : w.cell? b = some (.int .i64 n)) (hn : 0 < n) :
    Calls Tryz.prog 59 #[lv, .pointer (some b)] w fun e w' => e = (textOut 0).end_ ∧ Below w.heap.size w w' := by
  obtain ⟨a, c, p, rfl, c0, c1, hd⟩ := h.first
  rw [decide_eq_false (by omega)] at c0
  have HD := Lib.hid hd
  obtain ⟨A6, c6, hp6, -, -, -⟩ := hd
  rw [show (0 : Int).natAbs = 0 from rfl, dg_zero] at hp6
  simp only [List.length_nil] at hp6
  subst hp6
  have HT := Lib.hid ht
  have hneg : decide (n < 0) = false := by simp; omega
  obtain ⟨W, hW, kk, ff, hbel, hsz⟩ := boxes1 w #[.bool false, .slice A6 0 c6] 72
  have kb := keep_cell hbel.to hb
  have r0 := kk 0
  have r1 := kk 1
  simp at r0 r1
  have HBEL := Lib.hid hbel
  have HO : Hid (textOut 0 = .ok (.string ⟨(Lib.itoa 0).toArray⟩)) := if_pos (by decide)
  have HWX : Hid (Wh W (.agg #[.bool false, .slice A6 0 c6]) 0) := ⟨_, rfl, HD.out.below hbel.to⟩
  rw [HO.out]
  clear h ht kk ff hsz
  go_enter Tryz.func59, Tryz.ntmps59
  go_wp2_with fail
  go_wp2_with (first
    | (go_at_call 60; refine (made_c _ _ 0 _ (HD.out.below HBEL.out.to)).mono ?_; rintro e W2 ⟨rfl, hbz⟩; have HB2 := Lib.hid hbz; clear hbz)
    | (go_at_call 58; refine (text_out _ 0 _ (HWX.out.below HB2.out) (HT.out.below (below_then' HBEL.out.to HB2.out)) (by simp [dg_zero])).mono ?_; rw [HO.out]; rintro e W3 ⟨he, hbz⟩; have he2 : e = .returned (.string ⟨(Lib.itoa 0).toArray⟩) := he; subst he2; have HB3 := Lib.hid (below_then' (below_then' HBEL.out.to HB2.out) hbz); clear he hbz))
  go_ret
  exact ⟨rfl, HB3.out⟩

set_option maxRecDepth 100000 in
set_option maxHeartbeats 2000000 in
theorem pow1_unit (lv : Value) (b : Addr) (x n z : Int) (o : Bool) (w : World) (h : Whs w lv [x]) (ht : Tabs w) (hb : w.cell? b = some (.int .i64 n)) (hn : 0 < n) (hx : x.natAbs = 1) (ho : (n % 2 == 1) = o) (hz : z = if (decide (x < 0) && o) = true then -1 else 1) :
    Calls Tryz.prog 59 #[lv, .pointer (some b)] w fun e w' => e = (textOut z).end_ ∧ Below w.heap.size w w' := by
  obtain ⟨a, c, p, rfl, c0, c1, hd⟩ := h.first
  have HD := Lib.hid hd
  obtain ⟨A6, c6, hp6, -, -, hrow⟩ := hd
  rw [hx, dg_one] at hp6 hrow
  simp only [List.length_cons, List.length_nil, Nat.zero_add] at hp6
  obtain ⟨a6, rfl, hc6⟩ := hrow 0 (by simp)
  subst hp6
  have HT := Lib.hid ht
  have hneg : decide (n < 0) = false := by simp; omega
  generalize hbx : decide (x < 0) = bx at *
  obtain ⟨W, hW, kk, ff, hbel, hsz⟩ := boxes1 w #[.bool bx, .slice (some a6) 1 c6] 72
  have kb := keep_cell hbel.to hb
  have k6 := keep_cell hbel.to hc6
  have r0 := kk 0
  have r1 := kk 1
  simp at r0 r1
  rw [addr_zero] at k6
  simp at k6
  have HBEL := Lib.hid hbel
  have hz1 : z.natAbs = 1 := by rw [hz]; split <;> rfl
  have HLZ : Hid ((dg 1000000000 z.natAbs).length ≤ 1000000) := by show _ ≤ _; rw [hz1, dg_one]; simp
  obtain ⟨s, hs⟩ : ∃ s, (bx && o) = s := ⟨_, rfl⟩
  have HO : Hid (textOut z = .ok (.string ⟨(Lib.itoa z).toArray⟩)) := if_pos (by rw [hz1]; decide)
  have hzs : s = decide (z < 0) := by rw [hz, hs]; cases s <;> rfl
  have hD1 := HD.out.below hbel.to
  rw [hx] at hD1
  have HWX : Hid (Wh W (.agg #[.bool s, .slice (some a6) 1 c6]) z) := ⟨_, by rw [hzs], by rw [hz1]; exact hD1⟩
  have HD1 := Lib.hid hD1
  clear hD1
  rw [HO.out]
  clear h ht kk ff hsz hc6 hrow hz hz1 hzs hx hbx HD
  cases bx
  · obtain rfl : s = false := by rw [← hs]; rfl
    clear hs
    go_enter Tryz.func59, Tryz.ntmps59
    go_wp2_with (first | (go_at_call 60; refine (made_c _ _ 1 _ HD1.out).mono ?_; rintro e W2 ⟨rfl, hbz⟩; have HB2 := Lib.hid hbz; clear hbz) | (go_at_call 58; refine (text_out _ z _ (HWX.out.below HB2.out) (HT.out.below (below_then' HBEL.out.to HB2.out)) HLZ.out).mono ?_; rw [HO.out]; rintro e W3 ⟨he, hbz⟩; have he2 : e = .returned (.string ⟨(Lib.itoa z).toArray⟩) := he; subst he2; have HB3 := Lib.hid (below_then' (below_then' HBEL.out.to HB2.out) hbz); clear he hbz))
    go_ret
    exact ⟨rfl, HB3.out⟩
  · obtain rfl : o = s := by rw [← hs]; rfl
    clear hs
    cases o
    · go_enter Tryz.func59, Tryz.ntmps59
      go_wp2_with (first | (go_at_call 60; refine (made_c _ _ 1 _ HD1.out).mono ?_; rintro e W2 ⟨rfl, hbz⟩; have HB2 := Lib.hid hbz; clear hbz) | (go_at_call 58; refine (text_out _ z _ (HWX.out.below HB2.out) (HT.out.below (below_then' HBEL.out.to HB2.out)) HLZ.out).mono ?_; rw [HO.out]; rintro e W3 ⟨he, hbz⟩; have he2 : e = .returned (.string ⟨(Lib.itoa z).toArray⟩) := he; subst he2; have HB3 := Lib.hid (below_then' (below_then' HBEL.out.to HB2.out) hbz); clear he hbz))
      go_ret
      exact ⟨rfl, HB3.out⟩
    · go_enter Tryz.func59, Tryz.ntmps59
      go_wp2_with (first | (go_at_call 60; refine (made_c _ _ 1 _ HD1.out).mono ?_; rintro e W2 ⟨rfl, hbz⟩; have HB2 := Lib.hid hbz; clear hbz) | (go_at_call 58; refine (text_out _ z _ (HWX.out.below HB2.out) (HT.out.below (below_then' HBEL.out.to HB2.out)) HLZ.out).mono ?_; rw [HO.out]; rintro e W3 ⟨he, hbz⟩; have he2 : e = .returned (.string ⟨(Lib.itoa z).toArray⟩) := he; subst he2; have HB3 := Lib.hid (below_then' (below_then' HBEL.out.to HB2.out) hbz); clear he hbz))
      go_ret
      exact ⟨rfl, HB3.out⟩

/-- Two stores into one block. -/
theorem two_set (W2 : World) (B : Nat) (u v : Value) {z0 z1 : Value} (h0 : W2.cell? ⟨B, 0, none⟩ = some z0) (h1 : W2.cell? ⟨B, 1, none⟩ = some z1) : ∃ F, (W2.setCell ⟨B, 0, none⟩ u).setCell ⟨B, 1, none⟩ v = F ∧ F.cell? ⟨B, 0, none⟩ = some u ∧ F.cell? ⟨B, 1, none⟩ = some v
    ∧ (∀ (p : Addr) v', p.block ≠ B → W2.cell? p = some v' → F.cell? p = some v') ∧ (∀ p, F.frozen? p = W2.frozen? p) ∧ (∀ k w, k ≤ B → Below k w W2 → Below k w F) ∧ (∀ v' z' k, B < k → WhN k W2 v' z' → WhN k F v' z') ∧ F.heap.size = W2.heap.size :=
  ⟨_, rfl, set_other _ (by simp) (set_same _ h0), set_same _ (set_other _ (by simp) h1), fun p v' hp hv => set_far _ (fun e => hp e.symm) (set_far _ (fun e => hp e.symm) hv), fun p => by simp, fun k w hk hb => (hb.setCell hk _).setCell hk _, fun v' z' k hk hv => (hv.set hk _).set hk _, by simp⟩

theorem mul_big (x : Int) {i : Nat} (hx : x.natAbs < 10 ^ 200) (h : (x ^ i).natAbs < 10 ^ 200) : (dg 1000000000 (x ^ i * x).natAbs).length ≤ 1000000 := by
  rw [Int.natAbs_mul]; exact Nat.le_trans (len_mul h hx) (by decide)

set_option maxRecDepth 100000 in
set_option maxHeartbeats 4000000 in
theorem pow1_big (lv : Value) (b : Addr) (x : Int) (N : Nat) (w : World) (h : Whs w lv [x]) (ht : Tabs w) (hb : w.cell? b = some (.int .i64 (N : Int))) (hN : N ≤ 9223372036854775807) (hx : x.natAbs < 10 ^ 200) (hc : N = 0 ∨ 2 ≤ x.natAbs) :
    Calls Tryz.prog 59 #[lv, .pointer (some b)] w fun e w' => e = (textOut (x ^ N)).end_ ∧ Below w.heap.size w w' := by
  obtain ⟨a, c, p, rfl, c0, c1, hd⟩ := h.first
  have HD := Lib.hid hd
  obtain ⟨L, hL⟩ : ∃ L, (dg 1000000000 x.natAbs).length = L := ⟨_, rfl⟩
  obtain ⟨A6, c6, hp6, -, -, hrow⟩ := hd
  rw [hL] at hp6
  subst hp6
  have HT := Lib.hid ht
  have HX := Lib.hid hx
  have HW0 : Hid (Wh w (.agg #[.bool (decide (x < 0)), .slice A6 L c6]) x) := ⟨_, rfl, HD.out⟩
  have HCC := Lib.hid hc
  have HN := Lib.hid hN
  have hneg : decide ((N : Int) < 0) = false := by simp
  -- the three ways past the test
  have hway : N = 0 ∨ (0 < N ∧ ((L : Int) == 0) = false ∧ ((L : Int) == 1) = false) ∨ (0 < N ∧ L = 1 ∧ ∃ a6 d, A6 = some a6 ∧ w.cell? a6 = some (.int .i64 d) ∧ (d == 1) = false) := by
    rcases hc with h0 | h2
    · exact .inl h0
    · rcases Nat.eq_zero_or_pos N with h0 | h0
      · exact .inl h0
      · right
        have hl0 : L ≠ 0 := fun e => by rw [e] at hL; have := (dg_eq_nil (b := 1000000000) (by decide)).1 (List.length_eq_zero_iff.1 hL); omega
        by_cases h1 : L = 1
        · right
          obtain ⟨a6, rfl, hc6⟩ := hrow 0 (by omega)
          rw [addr_zero] at hc6
          refine ⟨h0, h1, a6, _, rfl, hc6, ?_⟩
          have hlt : x.natAbs < 1000000000 := by have := (dg_length_le (b := 1000000000) (by decide) x.natAbs 1).1 (by omega); simpa using this
          rw [dg_single (b := 1000000000) (d := x.natAbs) (by decide) (by omega) hlt]
          simp; omega
        · left
          exact ⟨h0, by simp; omega, by simp; omega⟩
  generalize hbx : decide (x < 0) = bx at *
  have HBX := Lib.hid hbx
  obtain ⟨W, hW, kk, ff, hbel, hsz⟩ := boxes1 w #[.bool bx, .slice A6 L c6] 72
  have kb := keep_cell hbel.to hb
  have r0 := kk 0
  have r1 := kk 1
  simp at r0 r1
  have HBEL := Lib.hid hbel
  obtain ⟨V, hV, vk0, vk1, vf0, vf1, hbv, hsv⟩ := boxes2 W #[.int .i64 1] #[.bool false, .slice (some ⟨W.heap.size, 0, none⟩) 1 1] 3 72
  have kc0 := keep_cell hbv.to (keep_cell hbel.to c0)
  have kc1 := keep_cell hbv.to (keep_cell hbel.to c1)
  have kcb := keep_cell hbv.to kb
  have v0 := vk1 0
  have v1 := vk1 1
  have g0 := vf1 0
  have g1 := vf1 1
  simp at v0 v1
  have HBV : Hid (Below w.heap.size w V) := below_then' hbel.to hbv.to
  have HSW : Hid (W.heap.size = w.heap.size + 1) := hsz
  have HSV : Hid (V.heap.size = W.heap.size + 1 + 1) := hsv
  have HV1 : Hid (Dg 1000000000 V (.slice (some ⟨W.heap.size, 0, none⟩) 1 1) 1) := by rw [← hV]; exact (dg_lit W 1 3 (by decide) (by decide)).below ((Below.refl _ _).alloc (Nat.le_refl _) _)
  clear h ht kk ff hsz hsv hc hx hL vk0 vk1 vf0 vf1 hbv hbx hN
  have ha0 : a < w.heap.size := by have := World.block_lt_of_cell? w _ c0; simpa using this
  have hb0 : b.block < w.heap.size := World.block_lt_of_cell? w _ hb
  have HA0 := Lib.hid ha0
  have HB0 := Lib.hid hb0
  clear ha0 hb0
  rcases hway with h0 | ⟨h0, l0, l1⟩ | ⟨h0, l1, a6, d, rfl, hc6, hd1⟩
  · have hz : decide (0 < N) = false := by simp [h0]
    have hz2 : ¬ 0 < N := by omega
    clear hrow h0
    go_enter Tryz.func59, Tryz.ntmps59
    go_wp2_with fail
    clear r0 r1 kb hz hz2 c0 c1 hb
    go_loopg [48] N (fun gk iv wr => ∃ (i : Nat) (bz : Bool) (q : Value), iv = .int .i64 i ∧ i + gk = N ∧ wr.cell? ⟨a, 0, none⟩ = some (.bool bx) ∧ wr.cell? ⟨a, 1, none⟩ = some (.slice A6 L c6) ∧ wr.cell? b = some (.int .i64 (N : Int)) ∧ wr.cell? ⟨W.heap.size + 1, 0, none⟩ = some (.bool bz) ∧ wr.cell? ⟨W.heap.size + 1, 1, none⟩ = some q ∧ wr.frozen? ⟨W.heap.size + 1, 0, none⟩ = false ∧ wr.frozen? ⟨W.heap.size + 1, 1, none⟩ = false ∧ Hid (bz = decide (x ^ i < 0) ∧ Dg 1000000000 wr q (x ^ i).natAbs ∧ (x ^ i).natAbs < 10 ^ 200) ∧ Hid (Below w.heap.size w wr ∧ V.heap.size ≤ wr.heap.size))
    case atStart => exact ⟨0, false, _, rfl, by omega, kc0, kc1, kcb, v0, v1, g0, g1, ⟨by simp, by simpa using HV1.out, by rw [Int.pow_zero]; decide⟩, ⟨HBV.out, Nat.le_refl _⟩⟩
    case round =>
      obtain ⟨i, bz, q, rfl, hg, ka0, ka1, kab, p0, p1, f0, f1, HG, HB⟩ := hrel
      clear kc0 kc1 kcb v0 v1 g0 g1
      obtain ⟨A8, n8, c8, rfl⟩ := HG.out.2.1.form
      have HGK := Lib.hid hg
      by_cases hlt : i < N
      · have HLT := Lib.hid hlt
        have HWI : Hid (Wh wr.drew (.agg #[.bool bz, .slice A8 n8 c8]) (x ^ i)) := ⟨_, by rw [← HG.out.1], HG.out.2.1.drew⟩
        have HWXX : Hid (Wh wr.drew (.agg #[.bool bx, .slice A6 L c6]) x) := HW0.out.below HB.out.1.drew
        have HL1 : Hid ((dg 1000000000 (x ^ i).natAbs).length ≤ 1000000) := Nat.le_trans (len23 HG.out.2.2) (by decide)
        have HL2 : Hid ((dg 1000000000 x.natAbs).length ≤ 1000000) := Nat.le_trans (len23 HX.out) (by decide)
        have HL3 : Hid ((dg 1000000000 (x ^ i * x).natAbs).length ≤ 1000000) := mul_big x HX.out HG.out.2.2
        have d0 : wr.drew.cell? ⟨a, 0, none⟩ = some (.bool bx) := ka0
        have d1 : wr.drew.cell? ⟨a, 1, none⟩ = some (.slice A6 L c6) := ka1
        have d2 : wr.drew.cell? b = some (.int .i64 (N : Int)) := kab
        have d3 : wr.drew.cell? ⟨W.heap.size + 1, 0, none⟩ = some (.bool bz) := p0
        have d4 : wr.drew.cell? ⟨W.heap.size + 1, 1, none⟩ = some (.slice A8 n8 c8) := p1
        have d5 : wr.drew.frozen? ⟨W.heap.size + 1, 0, none⟩ = false := f0
        have d6 : wr.drew.frozen? ⟨W.heap.size + 1, 1, none⟩ = false := f1
        obtain ⟨o, ho⟩ : ∃ o, textOut (x ^ i * x) = o := ⟨_, rfl⟩
        have HO := Lib.hid ho
        have hib : i < 9223372036854775807 := by have := HN.out; omega
        clear hg hlt ho
        go_wp2_with fail
        go_region_with (go_at_call 57; refine (mulN_c _ _ (x ^ i) x _ HWI.out HWXX.out HL1.out HL2.out).mono ?_; rintro e W2 ⟨u, rfl, hu, hbz⟩; obtain ⟨b6, A9, n9, c9, rfl, hb6, -⟩ := hu.form; have HU := Lib.hid hu; have HB6 := Lib.hid hb6; have ka0 := keep_cell hbz d0; have ka1 := keep_cell hbz d1; have kab := keep_cell hbz d2; have p0 := keep_cell hbz d3; have p1 := keep_cell hbz d4; have f0 := keep_free' hbz d3 d5; have f1 := keep_free' hbz d4 d6; have HBZ := Lib.hid hbz; clear hu hb6 hbz d0 d1 d2 d3 d4 d5 d6)
        all_goals
          obtain ⟨F, hF, e0, e1, hfar, hfz, hbf, hwf, hsf⟩ := two_set W2 (W.heap.size + 1) (.bool b6) (.slice A9 n9 c9) p0 p1
          rw [hF]
          have h1 := hfar _ _ (by have := HA0.out; have := HSW.out; simp; omega) ka0
          have h2 := hfar _ _ (by have := HA0.out; have := HSW.out; simp; omega) ka1
          have h3 := hfar _ _ (by have := HB0.out; have := HSW.out; simp; omega) kab
          have h4 := (hfz ⟨W.heap.size + 1, 0, none⟩).trans f0
          have h5 := (hfz ⟨W.heap.size + 1, 1, none⟩).trans f1
          have HUF := Lib.hid (hwf _ _ _ (by have := HSV.out; have := HB.out.2; simp; omega) HU.out)
          have HBF : Hid (Below w.heap.size w F) := hbf _ _ (by have := HSW.out; omega) (HB.out.1.drew.trans (HBZ.out.mono (HB.out.1.drew.size)))
          have HSF : Hid (V.heap.size ≤ F.heap.size) := by show _ ≤ _; rw [hsf]; exact Nat.le_trans HB.out.2 HBZ.out.size
          clear hfar hfz hbf hwf hsf hF ka0 ka1 kab p0 p1 f0 f1
          cases o with
          | ok r =>
            go_wp2_with (go_at_call 58; refine (text_out _ (x ^ i * x) _ HUF.out.wh (HT.out.below HBF.out) HL3.out).mono ?_; rw [HO.out]; rintro e W3 ⟨he, hbz⟩; have he2 : e = .returned r := he; subst he2; have h1 := keep_cell hbz h1; have h2 := keep_cell hbz h2; have h3 := keep_cell hbz h3; have h4 := keep_free' hbz e0 h4; have h5 := keep_free' hbz e1 h5; have e0 := keep_cell hbz e0; have e1 := keep_cell hbz e1; have HU3 := Lib.hid (HUF.out.below hbz); have HB3 := Lib.hid (below_then' HBF.out hbz); have HS3 := Lib.hid (Nat.le_trans HSF.out hbz.size); clear he hbz)
            go_roundg (gk - 1)
            case measure => have h1 := HGK.out; have h2 := HLT.out; omega
            case rel =>
              obtain ⟨t1, t2, t3⟩ := HU3.out.parts
              refine ⟨i + 1, b6, .slice A9 n9 c9, by simp, by have h1 := HGK.out; have h2 := HLT.out; omega, h1, h2, h3, e0, e1, h4, h5, ⟨?_, ?_, ?_⟩, ⟨HB3.out, HS3.out⟩⟩
              · rw [Int.pow_succ]; exact t3
              · rw [Int.pow_succ]; exact t1
              · rw [Int.pow_succ]
                have := HO.out
                unfold textOut at this
                split at this
                · assumption
                · cases this
          | err k =>
            go_wp2_with (go_at_call 58; refine (text_out _ (x ^ i * x) _ HUF.out.wh (HT.out.below HBF.out) HL3.out).mono ?_; rw [HO.out]; rintro e W3 ⟨he, hbz⟩; have he2 : e = .panicked (failChain k) := he; subst he2; have HB3 := Lib.hid (below_then' HBF.out hbz); clear he hbz)
            refine ⟨rfl, ?_, HB3.out⟩
            have hk : k = 3 ∧ ¬ (x ^ i * x).natAbs < 10 ^ 200 := by
              have := HO.out
              unfold textOut at this
              split at this
              · cases this
              · rename_i hh; cases this; exact ⟨rfl, hh⟩
            obtain ⟨rfl, hbig⟩ := hk
            have hgr : (x ^ (i + 1)).natAbs ≤ (x ^ N).natAbs := pow_grow (by have h0 := HLT.out; have hh := HCC.out; omega) HLT.out
            rw [Int.pow_succ] at hgr
            rw [show textOut (x ^ N) = .err 3 from if_neg (by omega)]
            rfl
      · have hiN : i = N := by omega
        have HIN := Lib.hid hiN
        have HWI : Hid (Wh wr (.agg #[.bool bz, .slice A8 n8 c8]) (x ^ N)) := ⟨_, by rw [← hiN, ← HG.out.1], by rw [← hiN]; exact HG.out.2.1⟩
        have HLN : Hid ((dg 1000000000 (x ^ N).natAbs).length ≤ 1000000) := by rw [← hiN]; exact Nat.le_trans (len23 HG.out.2.2) (by decide)
        have HO : Hid (textOut (x ^ N) = .ok (.string ⟨(Lib.itoa (x ^ N)).toArray⟩)) := if_pos (by rw [← hiN]; exact HG.out.2.2)
        have HTW := Lib.hid (HT.out.below HB.out.1)
        clear hg hlt
        subst hiN
        go_wp2_with (go_at_call 58; refine (text_out _ (x ^ i) _ HWI.out HTW.out HLN.out).mono ?_; rw [HO.out]; rintro e W3 ⟨he, hbz⟩; have he2 : e = .returned (.string ⟨(Lib.itoa (x ^ i)).toArray⟩) := he; subst he2; have HB3 := Lib.hid (below_then' HB.out.1 hbz); clear he hbz)
        go_ret
        exact ⟨by rw [HO.out]; rfl, HB3.out⟩
  · have hz : decide (0 < N) = true := by simp [h0]
    have hz2 : 0 < N := h0
    clear hrow h0
    go_enter Tryz.func59, Tryz.ntmps59
    go_wp2_with fail
    clear r0 r1 kb hz hz2 c0 c1 hb l0 l1
    go_loopg [48] N (fun gk iv wr => ∃ (i : Nat) (bz : Bool) (q : Value), iv = .int .i64 i ∧ i + gk = N ∧ wr.cell? ⟨a, 0, none⟩ = some (.bool bx) ∧ wr.cell? ⟨a, 1, none⟩ = some (.slice A6 L c6) ∧ wr.cell? b = some (.int .i64 (N : Int)) ∧ wr.cell? ⟨W.heap.size + 1, 0, none⟩ = some (.bool bz) ∧ wr.cell? ⟨W.heap.size + 1, 1, none⟩ = some q ∧ wr.frozen? ⟨W.heap.size + 1, 0, none⟩ = false ∧ wr.frozen? ⟨W.heap.size + 1, 1, none⟩ = false ∧ Hid (bz = decide (x ^ i < 0) ∧ Dg 1000000000 wr q (x ^ i).natAbs ∧ (x ^ i).natAbs < 10 ^ 200) ∧ Hid (Below w.heap.size w wr ∧ V.heap.size ≤ wr.heap.size))
    case atStart => exact ⟨0, false, _, rfl, by omega, kc0, kc1, kcb, v0, v1, g0, g1, ⟨by simp, by simpa using HV1.out, by rw [Int.pow_zero]; decide⟩, ⟨HBV.out, Nat.le_refl _⟩⟩
    case round =>
      obtain ⟨i, bz, q, rfl, hg, ka0, ka1, kab, p0, p1, f0, f1, HG, HB⟩ := hrel
      clear kc0 kc1 kcb v0 v1 g0 g1
      obtain ⟨A8, n8, c8, rfl⟩ := HG.out.2.1.form
      have HGK := Lib.hid hg
      by_cases hlt : i < N
      · have HLT := Lib.hid hlt
        have HWI : Hid (Wh wr.drew (.agg #[.bool bz, .slice A8 n8 c8]) (x ^ i)) := ⟨_, by rw [← HG.out.1], HG.out.2.1.drew⟩
        have HWXX : Hid (Wh wr.drew (.agg #[.bool bx, .slice A6 L c6]) x) := HW0.out.below HB.out.1.drew
        have HL1 : Hid ((dg 1000000000 (x ^ i).natAbs).length ≤ 1000000) := Nat.le_trans (len23 HG.out.2.2) (by decide)
        have HL2 : Hid ((dg 1000000000 x.natAbs).length ≤ 1000000) := Nat.le_trans (len23 HX.out) (by decide)
        have HL3 : Hid ((dg 1000000000 (x ^ i * x).natAbs).length ≤ 1000000) := mul_big x HX.out HG.out.2.2
        have d0 : wr.drew.cell? ⟨a, 0, none⟩ = some (.bool bx) := ka0
        have d1 : wr.drew.cell? ⟨a, 1, none⟩ = some (.slice A6 L c6) := ka1
        have d2 : wr.drew.cell? b = some (.int .i64 (N : Int)) := kab
        have d3 : wr.drew.cell? ⟨W.heap.size + 1, 0, none⟩ = some (.bool bz) := p0
        have d4 : wr.drew.cell? ⟨W.heap.size + 1, 1, none⟩ = some (.slice A8 n8 c8) := p1
        have d5 : wr.drew.frozen? ⟨W.heap.size + 1, 0, none⟩ = false := f0
        have d6 : wr.drew.frozen? ⟨W.heap.size + 1, 1, none⟩ = false := f1
        obtain ⟨o, ho⟩ : ∃ o, textOut (x ^ i * x) = o := ⟨_, rfl⟩
        have HO := Lib.hid ho
        have hib : i < 9223372036854775807 := by have := HN.out; omega
        clear hg hlt ho
        go_wp2_with fail
        go_region_with (go_at_call 57; refine (mulN_c _ _ (x ^ i) x _ HWI.out HWXX.out HL1.out HL2.out).mono ?_; rintro e W2 ⟨u, rfl, hu, hbz⟩; obtain ⟨b6, A9, n9, c9, rfl, hb6, -⟩ := hu.form; have HU := Lib.hid hu; have HB6 := Lib.hid hb6; have ka0 := keep_cell hbz d0; have ka1 := keep_cell hbz d1; have kab := keep_cell hbz d2; have p0 := keep_cell hbz d3; have p1 := keep_cell hbz d4; have f0 := keep_free' hbz d3 d5; have f1 := keep_free' hbz d4 d6; have HBZ := Lib.hid hbz; clear hu hb6 hbz d0 d1 d2 d3 d4 d5 d6)
        all_goals
          obtain ⟨F, hF, e0, e1, hfar, hfz, hbf, hwf, hsf⟩ := two_set W2 (W.heap.size + 1) (.bool b6) (.slice A9 n9 c9) p0 p1
          rw [hF]
          have h1 := hfar _ _ (by have := HA0.out; have := HSW.out; simp; omega) ka0
          have h2 := hfar _ _ (by have := HA0.out; have := HSW.out; simp; omega) ka1
          have h3 := hfar _ _ (by have := HB0.out; have := HSW.out; simp; omega) kab
          have h4 := (hfz ⟨W.heap.size + 1, 0, none⟩).trans f0
          have h5 := (hfz ⟨W.heap.size + 1, 1, none⟩).trans f1
          have HUF := Lib.hid (hwf _ _ _ (by have := HSV.out; have := HB.out.2; simp; omega) HU.out)
          have HBF : Hid (Below w.heap.size w F) := hbf _ _ (by have := HSW.out; omega) (HB.out.1.drew.trans (HBZ.out.mono (HB.out.1.drew.size)))
          have HSF : Hid (V.heap.size ≤ F.heap.size) := by show _ ≤ _; rw [hsf]; exact Nat.le_trans HB.out.2 HBZ.out.size
          clear hfar hfz hbf hwf hsf hF ka0 ka1 kab p0 p1 f0 f1
          cases o with
          | ok r =>
            go_wp2_with (go_at_call 58; refine (text_out _ (x ^ i * x) _ HUF.out.wh (HT.out.below HBF.out) HL3.out).mono ?_; rw [HO.out]; rintro e W3 ⟨he, hbz⟩; have he2 : e = .returned r := he; subst he2; have h1 := keep_cell hbz h1; have h2 := keep_cell hbz h2; have h3 := keep_cell hbz h3; have h4 := keep_free' hbz e0 h4; have h5 := keep_free' hbz e1 h5; have e0 := keep_cell hbz e0; have e1 := keep_cell hbz e1; have HU3 := Lib.hid (HUF.out.below hbz); have HB3 := Lib.hid (below_then' HBF.out hbz); have HS3 := Lib.hid (Nat.le_trans HSF.out hbz.size); clear he hbz)
            go_roundg (gk - 1)
            case measure => have h1 := HGK.out; have h2 := HLT.out; omega
            case rel =>
              obtain ⟨t1, t2, t3⟩ := HU3.out.parts
              refine ⟨i + 1, b6, .slice A9 n9 c9, by simp, by have h1 := HGK.out; have h2 := HLT.out; omega, h1, h2, h3, e0, e1, h4, h5, ⟨?_, ?_, ?_⟩, ⟨HB3.out, HS3.out⟩⟩
              · rw [Int.pow_succ]; exact t3
              · rw [Int.pow_succ]; exact t1
              · rw [Int.pow_succ]
                have := HO.out
                unfold textOut at this
                split at this
                · assumption
                · cases this
          | err k =>
            go_wp2_with (go_at_call 58; refine (text_out _ (x ^ i * x) _ HUF.out.wh (HT.out.below HBF.out) HL3.out).mono ?_; rw [HO.out]; rintro e W3 ⟨he, hbz⟩; have he2 : e = .panicked (failChain k) := he; subst he2; have HB3 := Lib.hid (below_then' HBF.out hbz); clear he hbz)
            refine ⟨rfl, ?_, HB3.out⟩
            have hk : k = 3 ∧ ¬ (x ^ i * x).natAbs < 10 ^ 200 := by
              have := HO.out
              unfold textOut at this
              split at this
              · cases this
              · rename_i hh; cases this; exact ⟨rfl, hh⟩
            obtain ⟨rfl, hbig⟩ := hk
            have hgr : (x ^ (i + 1)).natAbs ≤ (x ^ N).natAbs := pow_grow (by have h0 := HLT.out; have hh := HCC.out; omega) HLT.out
            rw [Int.pow_succ] at hgr
            rw [show textOut (x ^ N) = .err 3 from if_neg (by omega)]
            rfl
      · have hiN : i = N := by omega
        have HIN := Lib.hid hiN
        have HWI : Hid (Wh wr (.agg #[.bool bz, .slice A8 n8 c8]) (x ^ N)) := ⟨_, by rw [← hiN, ← HG.out.1], by rw [← hiN]; exact HG.out.2.1⟩
        have HLN : Hid ((dg 1000000000 (x ^ N).natAbs).length ≤ 1000000) := by rw [← hiN]; exact Nat.le_trans (len23 HG.out.2.2) (by decide)
        have HO : Hid (textOut (x ^ N) = .ok (.string ⟨(Lib.itoa (x ^ N)).toArray⟩)) := if_pos (by rw [← hiN]; exact HG.out.2.2)
        have HTW := Lib.hid (HT.out.below HB.out.1)
        clear hg hlt
        subst hiN
        go_wp2_with (go_at_call 58; refine (text_out _ (x ^ i) _ HWI.out HTW.out HLN.out).mono ?_; rw [HO.out]; rintro e W3 ⟨he, hbz⟩; have he2 : e = .returned (.string ⟨(Lib.itoa (x ^ i)).toArray⟩) := he; subst he2; have HB3 := Lib.hid (below_then' HB.out.1 hbz); clear he hbz)
        go_ret
        exact ⟨by rw [HO.out]; rfl, HB3.out⟩
  · have hz : decide (0 < N) = true := by simp [h0]
    have hz2 : 0 < N := h0
    have k6 := keep_cell hbel.to hc6
    subst l1
    clear hrow h0 hc6
    go_enter Tryz.func59, Tryz.ntmps59
    go_wp2_with fail
    clear r0 r1 kb hz hz2 c0 c1 hb hd1 k6
    go_loopg [48] N (fun gk iv wr => ∃ (i : Nat) (bz : Bool) (q : Value), iv = .int .i64 i ∧ i + gk = N ∧ wr.cell? ⟨a, 0, none⟩ = some (.bool bx) ∧ wr.cell? ⟨a, 1, none⟩ = some (.slice (some a6) 1 c6) ∧ wr.cell? b = some (.int .i64 (N : Int)) ∧ wr.cell? ⟨W.heap.size + 1, 0, none⟩ = some (.bool bz) ∧ wr.cell? ⟨W.heap.size + 1, 1, none⟩ = some q ∧ wr.frozen? ⟨W.heap.size + 1, 0, none⟩ = false ∧ wr.frozen? ⟨W.heap.size + 1, 1, none⟩ = false ∧ Hid (bz = decide (x ^ i < 0) ∧ Dg 1000000000 wr q (x ^ i).natAbs ∧ (x ^ i).natAbs < 10 ^ 200) ∧ Hid (Below w.heap.size w wr ∧ V.heap.size ≤ wr.heap.size))
    case atStart => exact ⟨0, false, _, rfl, by omega, kc0, kc1, kcb, v0, v1, g0, g1, ⟨by simp, by simpa using HV1.out, by rw [Int.pow_zero]; decide⟩, ⟨HBV.out, Nat.le_refl _⟩⟩
    case round =>
      obtain ⟨i, bz, q, rfl, hg, ka0, ka1, kab, p0, p1, f0, f1, HG, HB⟩ := hrel
      clear kc0 kc1 kcb v0 v1 g0 g1
      obtain ⟨A8, n8, c8, rfl⟩ := HG.out.2.1.form
      have HGK := Lib.hid hg
      by_cases hlt : i < N
      · have HLT := Lib.hid hlt
        have HWI : Hid (Wh wr.drew (.agg #[.bool bz, .slice A8 n8 c8]) (x ^ i)) := ⟨_, by rw [← HG.out.1], HG.out.2.1.drew⟩
        have HWXX : Hid (Wh wr.drew (.agg #[.bool bx, .slice (some a6) 1 c6]) x) := HW0.out.below HB.out.1.drew
        have HL1 : Hid ((dg 1000000000 (x ^ i).natAbs).length ≤ 1000000) := Nat.le_trans (len23 HG.out.2.2) (by decide)
        have HL2 : Hid ((dg 1000000000 x.natAbs).length ≤ 1000000) := Nat.le_trans (len23 HX.out) (by decide)
        have HL3 : Hid ((dg 1000000000 (x ^ i * x).natAbs).length ≤ 1000000) := mul_big x HX.out HG.out.2.2
        have d0 : wr.drew.cell? ⟨a, 0, none⟩ = some (.bool bx) := ka0
        have d1 : wr.drew.cell? ⟨a, 1, none⟩ = some (.slice (some a6) 1 c6) := ka1
        have d2 : wr.drew.cell? b = some (.int .i64 (N : Int)) := kab
        have d3 : wr.drew.cell? ⟨W.heap.size + 1, 0, none⟩ = some (.bool bz) := p0
        have d4 : wr.drew.cell? ⟨W.heap.size + 1, 1, none⟩ = some (.slice A8 n8 c8) := p1
        have d5 : wr.drew.frozen? ⟨W.heap.size + 1, 0, none⟩ = false := f0
        have d6 : wr.drew.frozen? ⟨W.heap.size + 1, 1, none⟩ = false := f1
        obtain ⟨o, ho⟩ : ∃ o, textOut (x ^ i * x) = o := ⟨_, rfl⟩
        have HO := Lib.hid ho
        have hib : i < 9223372036854775807 := by have := HN.out; omega
        clear hg hlt ho
        go_wp2_with fail
        go_region_with (go_at_call 57; refine (mulN_c _ _ (x ^ i) x _ HWI.out HWXX.out HL1.out HL2.out).mono ?_; rintro e W2 ⟨u, rfl, hu, hbz⟩; obtain ⟨b6, A9, n9, c9, rfl, hb6, -⟩ := hu.form; have HU := Lib.hid hu; have HB6 := Lib.hid hb6; have ka0 := keep_cell hbz d0; have ka1 := keep_cell hbz d1; have kab := keep_cell hbz d2; have p0 := keep_cell hbz d3; have p1 := keep_cell hbz d4; have f0 := keep_free' hbz d3 d5; have f1 := keep_free' hbz d4 d6; have HBZ := Lib.hid hbz; clear hu hb6 hbz d0 d1 d2 d3 d4 d5 d6)
        all_goals
          obtain ⟨F, hF, e0, e1, hfar, hfz, hbf, hwf, hsf⟩ := two_set W2 (W.heap.size + 1) (.bool b6) (.slice A9 n9 c9) p0 p1
          rw [hF]
          have h1 := hfar _ _ (by have := HA0.out; have := HSW.out; simp; omega) ka0
          have h2 := hfar _ _ (by have := HA0.out; have := HSW.out; simp; omega) ka1
          have h3 := hfar _ _ (by have := HB0.out; have := HSW.out; simp; omega) kab
          have h4 := (hfz ⟨W.heap.size + 1, 0, none⟩).trans f0
          have h5 := (hfz ⟨W.heap.size + 1, 1, none⟩).trans f1
          have HUF := Lib.hid (hwf _ _ _ (by have := HSV.out; have := HB.out.2; simp; omega) HU.out)
          have HBF : Hid (Below w.heap.size w F) := hbf _ _ (by have := HSW.out; omega) (HB.out.1.drew.trans (HBZ.out.mono (HB.out.1.drew.size)))
          have HSF : Hid (V.heap.size ≤ F.heap.size) := by show _ ≤ _; rw [hsf]; exact Nat.le_trans HB.out.2 HBZ.out.size
          clear hfar hfz hbf hwf hsf hF ka0 ka1 kab p0 p1 f0 f1
          cases o with
          | ok r =>
            go_wp2_with (go_at_call 58; refine (text_out _ (x ^ i * x) _ HUF.out.wh (HT.out.below HBF.out) HL3.out).mono ?_; rw [HO.out]; rintro e W3 ⟨he, hbz⟩; have he2 : e = .returned r := he; subst he2; have h1 := keep_cell hbz h1; have h2 := keep_cell hbz h2; have h3 := keep_cell hbz h3; have h4 := keep_free' hbz e0 h4; have h5 := keep_free' hbz e1 h5; have e0 := keep_cell hbz e0; have e1 := keep_cell hbz e1; have HU3 := Lib.hid (HUF.out.below hbz); have HB3 := Lib.hid (below_then' HBF.out hbz); have HS3 := Lib.hid (Nat.le_trans HSF.out hbz.size); clear he hbz)
            go_roundg (gk - 1)
            case measure => have h1 := HGK.out; have h2 := HLT.out; omega
            case rel =>
              obtain ⟨t1, t2, t3⟩ := HU3.out.parts
              refine ⟨i + 1, b6, .slice A9 n9 c9, by simp, by have h1 := HGK.out; have h2 := HLT.out; omega, h1, h2, h3, e0, e1, h4, h5, ⟨?_, ?_, ?_⟩, ⟨HB3.out, HS3.out⟩⟩
              · rw [Int.pow_succ]; exact t3
              · rw [Int.pow_succ]; exact t1
              · rw [Int.pow_succ]
                have := HO.out
                unfold textOut at this
                split at this
                · assumption
                · cases this
          | err k =>
            go_wp2_with (go_at_call 58; refine (text_out _ (x ^ i * x) _ HUF.out.wh (HT.out.below HBF.out) HL3.out).mono ?_; rw [HO.out]; rintro e W3 ⟨he, hbz⟩; have he2 : e = .panicked (failChain k) := he; subst he2; have HB3 := Lib.hid (below_then' HBF.out hbz); clear he hbz)
            refine ⟨rfl, ?_, HB3.out⟩
            have hk : k = 3 ∧ ¬ (x ^ i * x).natAbs < 10 ^ 200 := by
              have := HO.out
              unfold textOut at this
              split at this
              · cases this
              · rename_i hh; cases this; exact ⟨rfl, hh⟩
            obtain ⟨rfl, hbig⟩ := hk
            have hgr : (x ^ (i + 1)).natAbs ≤ (x ^ N).natAbs := pow_grow (by have h0 := HLT.out; have hh := HCC.out; omega) HLT.out
            rw [Int.pow_succ] at hgr
            rw [show textOut (x ^ N) = .err 3 from if_neg (by omega)]
            rfl
      · have hiN : i = N := by omega
        have HIN := Lib.hid hiN
        have HWI : Hid (Wh wr (.agg #[.bool bz, .slice A8 n8 c8]) (x ^ N)) := ⟨_, by rw [← hiN, ← HG.out.1], by rw [← hiN]; exact HG.out.2.1⟩
        have HLN : Hid ((dg 1000000000 (x ^ N).natAbs).length ≤ 1000000) := by rw [← hiN]; exact Nat.le_trans (len23 HG.out.2.2) (by decide)
        have HO : Hid (textOut (x ^ N) = .ok (.string ⟨(Lib.itoa (x ^ N)).toArray⟩)) := if_pos (by rw [← hiN]; exact HG.out.2.2)
        have HTW := Lib.hid (HT.out.below HB.out.1)
        clear hg hlt
        subst hiN
        go_wp2_with (go_at_call 58; refine (text_out _ (x ^ i) _ HWI.out HTW.out HLN.out).mono ?_; rw [HO.out]; rintro e W3 ⟨he, hbz⟩; have he2 : e = .returned (.string ⟨(Lib.itoa (x ^ i)).toArray⟩) := he; subst he2; have HB3 := Lib.hid (below_then' HB.out.1 hbz); clear he hbz)
        go_ret
        exact ⟨by rw [HO.out]; rfl, HB3.out⟩

theorem powOut_some {x : Int} {n : Int} (hn : 0 ≤ n) : powOut x n = textOut (x ^ n.toNat) := if_neg (by omega)

theorem pow1_c (lv : Value) (b : Addr) (x n : Int) (w : World) (h : Whs w lv [x]) (ht : Tabs w) (hb : w.cell? b = some (.int .i64 n)) (hn : n ≤ 9223372036854775807) (hx : x.natAbs < 10 ^ 200) :
    Calls Tryz.prog 59 #[lv, .pointer (some b)] w fun e w' => e = (powOut x n).end_ ∧ Below w.heap.size w w' := by
  by_cases h0 : n < 0
  · rw [show powOut x n = .err 5 from if_pos h0]
    exact pow1_neg lv b x n w h hb h0
  · obtain ⟨N, rfl⟩ := Int.eq_ofNat_of_zero_le (Int.not_lt.1 h0)
    rw [powOut_some (by omega), Int.toNat_natCast]
    by_cases hc : N = 0 ∨ 2 ≤ x.natAbs
    · exact pow1_big lv b x N w h ht hb (by omega) hx hc
    · have hN : 0 < N := by omega
      have hs := pow_small (x := x) (n := N) (by omega) hN
      rcases Nat.eq_zero_or_pos x.natAbs with h1 | h1
      · have hx0 : x = 0 := by omega
        subst hx0
        rw [Int.zero_pow (by omega)]
        exact pow1_zero lv b _ w h ht hb (by omega)
      · have hx1 : x.natAbs = 1 := by omega
        refine pow1_unit lv b x _ _ _ w h ht hb (by omega) hx1 rfl ?_
        rw [hs, if_neg (by omega : ¬ x = 0)]
        have e : ((N : Int) % 2 == 1) = decide (N % 2 = 1) := by
          rw [Bool.eq_iff_iff]; simp; omega
        rw [e]
        by_cases h2 : x < 0 ∧ N % 2 = 1
        · rw [if_pos h2, if_pos (by simp [h2.1, h2.2])]
        · rw [if_neg h2, if_neg (by intro e2; rw [Bool.and_eq_true, decide_eq_true_iff, decide_eq_true_iff] at e2; exact h2 e2)]

set_option maxHeartbeats 1000000 in
theorem numPow_c (S : ByteArray) (n : Int) (hn : n ≤ 9223372036854775807) (w : World) (ht : Tabs w) : Calls Tryz.prog 20 #[.string S, .int .i64 n] w (Un S (fun x => powOut x n) (.string ⟨#[]⟩) w) := by
  have HT := Lib.hid ht
  have HN := Lib.hid hn
  clear ht hn
  go_enter Tryz.func20, Tryz.ntmps20
  go_wp2_with (go_at_call 55; refine (withStr_c 59 #[.pointer (some ⟨w.heap.size, 0, none⟩)] (enters_of Tryz.func59 (by kernel_rfl) rfl) _ [S] (fun zs => powOut (zs.headD 0) n) _ (by have := strs_one (w.alloc (.cells #[.int .i64 n] 3)) S 9; simpa using this) (by simp) ?hf).mono ?_)
  case hf =>
    intro zs hz W lv hb hw
    obtain ⟨x, rfl, hx⟩ := one_zs hz
    have hc : ((w.alloc (.cells #[.int .i64 n] 3)).alloc (.cells #[.string S] 9)).cell? ⟨w.heap.size, 0, none⟩ = some (.int .i64 n) := keep_cell ((Below.refl _ _).alloc (Nat.le_refl _) _) (new_cell w #[.int .i64 n] 3 0)
    exact pow1_c lv ⟨w.heap.size, 0, none⟩ x n W hw (HT.out.below (Below.trans (((Below.refl w.heap.size w).alloc (Nat.le_refl _) _).alloc (by simp) _) (hb.mono (by simp; omega)))) (keep_cell hb hc) HN.out hx.2
  rintro e w' h
  obtain ⟨a, b, rfl, hr⟩ := with_one (f := fun x => powOut x n) h (((Below.refl w.heap.size w).alloc (Nat.le_refl _) _).alloc (by simp) _)
  have HR := Lib.hid hr
  clear h hr
  go_wp2
  go_ret2
  exact HR.out

end Go.Proofs.YtbjgpbdkofadiaaGreatDoor

namespace Go.Proofs.YtbjgpbdkofadiaaGreatDoor
set_option linter.unusedVariables false
set_option linter.unusedSimpArgs false
open Go.RowKit Go.Shelf Go.Proofs Go.Sort

/-- Bytes turned around. -/
theorem rev_c (g cap : Nat) (l : List UInt8) (w : World) (hc : ∀ j (hj : j < l.length), w.cell? ⟨g, j, none⟩ = some (.int .u8 (l[j].toNat : Int))) (hf : ∀ j, w.frozen? ⟨g, j, none⟩ = false) (hl : l.length ≤ 9223372036854775807) :
    Calls Tryz.prog 84 #[.slice (some ⟨g, 0, none⟩) l.length cap] w fun e w' => e = .returned (.tuple #[]) ∧ (∀ j (hj : j < l.reverse.length), w'.cell? ⟨g, j, none⟩ = some (.int .u8 (l.reverse[j].toNat : Int))) ∧ (∀ k w0, k ≤ g → Below k w0 w → Below k w0 w') := by
  have h0 : Holds (Value.int .u8) w g 0 (List.map (fun b : UInt8 => (b.toNat : Int)) l).toArray := fun j hj => by
    have hj' : j < l.length := by simpa using hj
    rw [Nat.zero_add]
    refine ⟨?_, hf j⟩
    rw [hc j hj', getElem!_pos _ j hj]
    simp
  have h := AnyE.slices_Reverse Tryz.laysRev (Value.int .u8) (fun _ => rfl) g 0 cap (List.map (fun b : UInt8 => (b.toNat : Int)) l) w h0 (by simpa using hl)
  rw [List.length_map] at h
  refine (show Calls Tryz.prog 84 #[.slice (some ⟨g, 0, none⟩) l.length cap] w _ from h).mono ?_
  rintro e w' ⟨rfl, n, rfl⟩
  refine ⟨rfl, fun j hj => ?_, fun k w0 hk hb => ⟨hb.os, hb.tape, hb.output, by simpa [Sort.ahead] using hb.size, fun i hi => ?_⟩⟩
  · have hj' : j < (List.map (fun b : UInt8 => (b.toNat : Int)) l).reverse.toArray.size := by simpa using hj
    have h1 := cell?_putRow (Value.int .u8) (Sort.ahead w n) g 0 (List.map (fun b : UInt8 => (b.toNat : Int)) l).toArray (List.map (fun b : UInt8 => (b.toNat : Int)) l).reverse.toArray h0 (by simp) j hj'
    rw [Nat.zero_add] at h1
    rw [h1, getElem!_pos _ j hj']
    simp [← List.map_reverse]
  · rw [← hb.block i hi]
    simp only [putRow, mapBlock, Sort.ahead, Array.getElem?_modify]
    rw [if_neg (by omega)]

/-- The digits' table. -/
theorem digit_cell {w : World} (ht : Tabs w) (d : Nat) (hd : d < 36) : w.cell? ⟨0, d, none⟩ = some (.int .u8 ((chr d).toNat : Int)) := by
  have h := ht.digit.cell (g := 0) (by kernel_rfl) d hd
  rw [h]
  have key : ∀ i : Fin 36, ([48, 49, 50, 51, 52, 53, 54, 55, 56, 57, 97, 98, 99, 100, 101, 102, 103, 104, 105, 106, 107, 108, 109, 110, 111, 112, 113, 114, 115, 116, 117, 118, 119, 120, 121, 122] : List Int).getD i.1 0 = ((chr i.1).toNat : Int) := by decide +kernel
  rw [key ⟨d, hd⟩]

set_option maxHeartbeats 1000000 in
theorem tobase1_zero (lv : Value) (b : Addr) (w : World) (h : Whs w lv [0]) :
    Calls Tryz.prog 82 #[lv, .pointer (some b)] w fun e w' => e = (Out.ok (.string ⟨#[48]⟩)).end_ ∧ Below w.heap.size w w' := by
  obtain ⟨a, c, p, rfl, c0, c1, hd⟩ := h.first
  obtain ⟨A6, c6, rfl, -, -, -⟩ := hd
  rw [show (0 : Int).natAbs = 0 from rfl, dg_zero] at c1
  simp only [List.length_nil] at c1
  clear h
  go_enter Tryz.func82, Tryz.ntmps82
  go_wp2_with fail
  go_ret
  exact ⟨rfl, (by repeat (first | exact Below.refl _ _ | exact HB.out | (refine Below.alloc ?_ (by first | (simp; done) | (simp; omega)) _) | (refine Below.setCell ?_ (by first | (simp; done) | (simp; omega)) _) | refine Below.drew ?_ | refine below_drewN ?_ _))⟩

theorem dg_zero_at (d : Nat) (hd : d < 1000000000) : (dg 1000000000 d)[0]?.getD 0 = (d : Int) := by
  rcases Nat.eq_zero_or_pos d with rfl | h
  · rw [dg_zero]; rfl
  · rw [dg_single (b := 1000000000) (d := d) (by decide) h hd]; rfl
theorem at0_c (v : Value) (d : Nat) (w : World) (hd : d < 1000000000) (h : Dg 1000000000 w v d) : Calls Tryz.prog 83 #[v, .int .i64 0] w fun e w' => e = .returned (.int .i64 (d : Int)) ∧ w = w' := by
  obtain ⟨A, c, rfl, _, _, hr⟩ := h
  have := at_c A c _ 0 w hr
  rw [dg_zero_at d hd] at this
  exact this
/-- Digits that an append elsewhere leaves. -/
theorem dg_grown {b' : Nat} (hb : 2 ≤ b') {W W2 : World} {q v : Value} {n : Nat} {o : Obj} (h : Dg b' W q n) (hgrow : (W.alloc o).grownBy W2 v.ownBlock) (hne : ∀ g, q.ownBlock = some g → v.ownBlock ≠ some g) : Dg b' W2 q n := by
  by_cases h0 : n = 0
  · subst h0; exact dg_any h
  · refine h.same fun g hg => ?_
    have hlt := dg_block hb h h0 hg
    rw [hgrow.block g (by simp; omega) (fun e => hne g hg e.symm), Below.heap_alloc W o g hlt]
theorem byte_push (l : List UInt8) (c : UInt8) : Lib.byteCells l ++ [.int .u8 (c.toNat : Int)] = Lib.byteCells (l ++ [c]) := by simp [Lib.byteCells]
theorem len_pow {b N m n : Nat} (hb : 2 ≤ b) (h : N < (b ^ m) ^ n) : (dg b N).length ≤ m * n := (dg_length_le hb N (m * n)).2 (by rw [Nat.pow_mul]; exact h)
theorem bdig_len {b N : Nat} (hb : 2 ≤ b) (hN : N < 10 ^ 200) : (bdig b N).length ≤ 800 := by
  unfold bdig
  rw [List.length_map, List.length_reverse]
  have h : (dg b N).length ≤ 4 * 200 := len_pow hb (Nat.lt_of_lt_of_le hN (Nat.pow_le_pow_left (Nat.le_trans (by decide) (Nat.pow_le_pow_left hb 4)) 200))
  exact h

theorem own_some {w : World} {B : Nat} {t : TypeId} {v : Value} {n : Nat} {xs : List Value} (h : w.ownsRow B t 1 v n xs) (hn : 0 < n) : ∃ g cap, v = .slice (some ⟨g, 0, none⟩) n cap := by
  rcases h.2 with ⟨_, h0⟩ | ⟨g, cap, cur, rfl, _⟩
  · omega
  · exact ⟨g, cap, rfl⟩
theorem own_bytes {w : World} {B g n cap : Nat} {t : TypeId} {l : List UInt8} (h : w.ownsRow B t 1 (.slice (some ⟨g, 0, none⟩) n cap) n (Lib.byteCells l)) : ∀ j (hj : j < l.length), w.cell? ⟨g, j, none⟩ = some (.int .u8 (l[j].toNat : Int)) := fun j hj => by
  have := h.cells (g := g) rfl j (.int .u8 (l[j].toNat : Int)) (by simp [Lib.byteCells, hj])
  rw [add_lit, Nat.zero_add] at this
  exact this
theorem conv_rev {P : Program} (w : World) (g cap : Nat) (l : List UInt8) {src dst e : TypeId} (hs : P.underlying src = some (.slice e)) (he : P.underlying e = some (.int .u8)) (hd : P.underlying dst = some .string)
    (hc : ∀ j (hj : j < l.reverse.length), w.cell? ⟨g, j, none⟩ = some (.int .u8 (l.reverse[j].toNat : Int))) : (convert src dst (.slice (some ⟨g, 0, none⟩) l.length cap)).run P w = .ok (.string ⟨l.reverse.toArray⟩) w := by
  have := run_convert_bytes_back (P := P) w src dst e ⟨g, 0, none⟩ cap l.reverse hs he hd (fun j hj => by rw [add_lit, Nat.zero_add]; exact hc j hj)
  rw [List.length_reverse] at this
  exact this

set_option maxRecDepth 100000 in
set_option maxHeartbeats 1000000 in
theorem tobase1_pos (lv : Value) (pb : Addr) (x : Int) (b : Nat) (w : World) (h : Whs w lv [x]) (ht : Tabs w) (hpb : w.cell? pb = some (.int .i64 (b : Int))) (hb : 2 ≤ b) (hb2 : b ≤ 36) (hx : x.natAbs < 10 ^ 200) (hx0 : x ≠ 0) :
    Calls Tryz.prog 82 #[lv, .pointer (some pb)] w fun e w' => e = (Out.ok (.string ⟨(btext b x).toArray⟩)).end_ ∧ Below w.heap.size w w' := by
  obtain ⟨a, c, p, rfl, c0, c1, hd⟩ := h.first
  have HT := Lib.hid ht
  obtain ⟨N, hN⟩ : ∃ N, x.natAbs = N := ⟨_, rfl⟩
  have hN0 : 0 < N := by omega
  have HXE : Hid (btext b x = (if x < 0 then [45] else []) ++ bdig b N) := by
    show _ = _
    unfold btext
    rw [if_neg hx0, hN]
  rw [hN] at hd hx
  have HD := Lib.hid hd
  have hl0 : 0 < (dg 1000000000 N).length := List.length_pos_iff.2 fun e => by have := (dg_eq_nil (by decide)).1 e; omega
  obtain ⟨L, hL⟩ : ∃ L, (dg 1000000000 N).length = L := ⟨_, rfl⟩
  obtain ⟨A6, c6, hp6, -, -, -⟩ := hd
  have HLL := Lib.hid hL
  rw [hL] at hp6 hl0
  subst hp6
  have hl1 : ((L : Int) == 0) = false := by simp; omega
  have HX := Lib.hid hx
  have HBB := Lib.hid (And.intro hb hb2)
  have HN0 := Lib.hid hN0
  obtain ⟨bx, hbx⟩ : ∃ bx, decide (x < 0) = bx := ⟨_, rfl⟩
  have HBX := Lib.hid hbx
  rw [hbx] at c0
  clear h ht hx hN hL hbx hN0 hb hb2
  go_enter Tryz.func82, Tryz.ntmps82
  go_wp2_with fail
  have HPB := Lib.hid hpb
  have HC0 := Lib.hid c0
  have HC1 := Lib.hid c1
  have HD0 := Lib.hid hl0
  clear hl0
  go_loopg [4, 5] N (fun gk pv ov wr => ∃ (m : Nat) (out : List UInt8), gk = m ∧ Hid (Dg 1000000000 wr pv m ∧ m ≤ N) ∧ Hid (wr.ownsRow w.heap.size 5 1 ov out.length (Lib.byteCells out)) ∧ Hid (bdig b N = bdig b m ++ out.reverse) ∧ wr.cell? pb = some (.int .i64 (b : Int)) ∧ wr.cell? ⟨a, 0, none⟩ = some (.bool bx) ∧ wr.cell? ⟨a, 1, none⟩ = some (.slice A6 L c6) ∧ Hid (Below w.heap.size w wr))
  case atStart => exact ⟨N, [], rfl, ⟨HD.out, Nat.le_refl _⟩, World.ownsRow_nil _ _ _ _, by show _ = _; simp, hpb, c0, c1, Below.refl _ _⟩
  case round =>
    obtain ⟨m, out, hgk, HG, HO, HE, kpb, k0, k1, HB⟩ := hrel
    have HGK := Lib.hid hgk
    clear hpb c0 c1 hgk
    have HDG := Lib.hid HG.out.1
    obtain ⟨A7, c7, hp7, -, -, -⟩ := HG.out.1
    obtain ⟨L7, hL7⟩ : ∃ L7, (dg 1000000000 m).length = L7 := ⟨_, rfl⟩
    rw [hL7] at hp7
    subst hp7
    have hlen : out.length ≤ 800 := by
      have h1 := congrArg List.length HE.out
      have h2 := bdig_len HBB.out.1 HX.out
      rw [h1, List.length_append, List.length_reverse] at h2
      omega
    by_cases hm : m = 0
    · have hz : L7 = 0 := by rw [← hL7, hm, dg_zero]; rfl
      subst hz
      have HEE : Hid (bdig b N = out.reverse) := by have := HE.out; rw [hm, bdig_zero, List.nil_append] at this; exact this
      clear hm hL7
      have hne : 0 < out.length := by
        rcases Nat.eq_zero_or_pos out.length with e | e
        · exfalso
          have h1 : bdig b N = [] := by rw [HEE.out, List.eq_nil_of_length_eq_zero e]; rfl
          have h2 : 0 < N := HN0.out
          exact bdig_ne HBB.out.1 h2 h1
        · exact e
      cases bx with
      | true =>
        have HFIN : Hid (btext b x = 45 :: bdig b N) := by show _ = _; rw [HXE.out, if_pos (by simpa using HBX.out)]; rfl
        go_wp2_with (first
          | (at_builtin; obtain ⟨i0, hi, hz0, hz1, hz2⟩ := info_parts info_byte; refine wpList_append_own _ rfl _ _ 101 rfl w.heap.size 5 i0 (.int .u8 0) 1 1 Tryz.underlying101 hi hz0 hz1 hz2 rfl (by decide) _ _ _ rfl (HO.out.alloc _) ⟨wr.heap.size, 0, none⟩ 1 1 [.int .u8 ((45 : UInt8).toNat : Int)] rfl rfl (cell_one_new _ _ _) (by simp [Value.oneCell']) (by unfold maxLen; omega) (by omega) (by have := HB.out.size; simp; omega) ?_; intro v' w2 hown1 hgrow1 _; rw [byte_push] at hown1; have HB3 := Lib.hid ((HB.out.alloc HB.out.size _).grown hgrow1 (by have := HB.out.size; simp; omega) (fun k hk => (HO.out.lt k hk).1)); obtain ⟨g, cap, rfl⟩ := own_some hown1 (by simp); have HO3 := Lib.hid hown1; clear hi hz0 hz1 hz2 hown1 hgrow1)
          | (go_at_call 84; rw [show out.length + 1 = (out ++ [45]).length by simp]; refine (rev_c g cap (out ++ [45]) _ (own_bytes HO3.out) (fun j => HO3.out.frozenAt j) (by simp; omega)).mono ?_; rintro e W5 ⟨rfl, hcs, hbb⟩; have HB5 := Lib.hid (hbb _ _ (HO3.out.lt g rfl).1 HB3.out); have hcv := conv_rev (P := Tryz.prog) W5 g cap (out ++ [45]) Tryz.underlying101 Tryz.underlying5 Tryz.underlying9 hcs; rw [List.length_append, List.length_singleton] at hcv; obtain ⟨R5, hR5⟩ : ∃ R : ByteArray, (⟨(out ++ [45]).reverse.toArray⟩ : ByteArray) = R := ⟨_, rfl⟩; rw [hR5] at hcv; have HR5 := Lib.hid hR5; clear hR5 hcs hbb))
        go_ret
        refine ⟨?_, HB5.out⟩
        show Ending.returned (.string R5) = .returned (.string ⟨(btext b x).toArray⟩)
        rw [← HR5.out, HFIN.out, HEE.out, List.reverse_append]; rfl
      | false =>
        have HFIN : Hid (btext b x = bdig b N) := by show _ = _; rw [HXE.out, if_neg (by simpa using HBX.out)]; rfl
        obtain ⟨g, cap, rfl⟩ := own_some HO.out hne
        go_wp2_with (go_at_call 84; refine (rev_c g cap out _ (own_bytes HO.out) (fun j => HO.out.frozenAt j) (by omega)).mono ?_; rintro e W5 ⟨rfl, hcs, hbb⟩; have HB5 := Lib.hid (hbb _ _ (HO.out.lt g rfl).1 HB.out); have hcv := conv_rev (P := Tryz.prog) W5 g cap out Tryz.underlying101 Tryz.underlying5 Tryz.underlying9 hcs; obtain ⟨R5, hR5⟩ : ∃ R : ByteArray, (⟨out.reverse.toArray⟩ : ByteArray) = R := ⟨_, rfl⟩; rw [hR5] at hcv; have HR5 := Lib.hid hR5; clear hR5 hcs hbb)
        go_ret
        refine ⟨?_, HB5.out⟩
        show Ending.returned (.string R5) = .returned (.string ⟨(btext b x).toArray⟩)
        rw [← HR5.out, HFIN.out, HEE.out]
    · have hz : 0 < L7 := by rw [← hL7]; exact List.length_pos_iff.2 fun e => by have := (dg_eq_nil (by decide)).1 e; omega
      have HM : Hid (0 < m) := by show 0 < m; omega
      clear hm hL7
      have HDM := Lib.hid (Nat.mod_lt m (show 0 < b by have := HBB.out.1; omega))
      have hd36 : m % b < 36 := by have := HDM.out; have := HBB.out.2; omega
      have HLM : Hid ((dg 1000000000 m).length ≤ 1000000) := Nat.le_trans (dg_length_mono (by decide) HG.out.2) (Nat.le_trans (len23 HX.out) (by decide))
      have HLB : Hid ((dg 1000000000 b).length ≤ 999999) := dg_len_small (by have := HBB.out.2; omega)
      have hlen2 : out.length ≤ 800 := hlen
      go_wp2_with (first
        | (go_at_call 75; refine (over_c _ _ m b _ (HDG.out.below ((Below.refl _ _).alloc (Nat.le_refl _) _)) (dg_lit wr b _ (by have := HBB.out.1; omega) (by have := HBB.out.2; omega)) (by have := HBB.out.1; omega) HLM.out HLB.out).mono ?_; rintro e V2 ⟨q, r, rfl, hq, hr, hfq, -, hbz⟩; obtain ⟨A8, n8, c8, rfl⟩ := hq.form; obtain ⟨A9, n9, c9, rfl⟩ := hr.form; have HQ := Lib.hid hq; have HR := Lib.hid hr; have HFQ := Lib.hid hfq; have HB2 := Lib.hid (below_then' (HB.out.alloc HB.out.size _) hbz); have HO2 := Lib.hid (own_below (HO.out.alloc _) hbz); have hdc := digit_cell (HT.out.below HB2.out) (m % b) hd36; clear hq hr hfq hbz)
        | (go_at_call 83; refine (at0_c _ (m % b) _ (by have := hd36; omega) HR.out).mono ?_; rintro e V3 ⟨rfl, rfl⟩)
        | (at_builtin; obtain ⟨i0, hi, hz0, hz1, hz2⟩ := info_parts info_byte; refine wpList_append_own _ rfl _ _ 101 rfl w.heap.size 5 i0 (.int .u8 0) 1 1 Tryz.underlying101 hi hz0 hz1 hz2 rfl (by decide) _ _ _ rfl (HO2.out.alloc _) ⟨V2.heap.size, 0, none⟩ 1 1 [.int .u8 ((chr (m % b)).toNat : Int)] rfl rfl (cell_one_new _ _ _) (by simp [Value.oneCell']) (by unfold maxLen; omega) (by omega) (by have := HB2.out.size; simp; omega) ?_; intro v' w2 hown1 hgrow1 _; have HO3 := Lib.hid hown1; have HG2 := Lib.hid hgrow1; clear hi hz0 hz1 hz2 hown1 hgrow1))
      go_roundg (m / b)
      case measure => have h1 := HGK.out; have h2 := HM.out; rw [h1]; exact Nat.div_lt_self h2 HBB.out.1
      case rel =>
        have hbn := (HB2.out.alloc HB2.out.size (.cells #[.int .u8 ((chr (m % b)).toNat : Int)] 5)).grown HG2.out (by have := HB2.out.size; simp; omega) (fun k hk => (HO2.out.lt k hk).1)
        refine ⟨m / b, out ++ [chr (m % b)], rfl, ⟨?_, Nat.le_trans (Nat.div_le_self _ _) HG.out.2⟩, ?_, ?_, keep_cell hbn HPB.out, keep_cell hbn HC0.out, keep_cell hbn HC1.out, hbn⟩
        · refine dg_grown (by decide) HQ.out HG2.out (fun g hg e => ?_)
          have h1 := HFQ.out g hg
          have h2 := (HO.out.lt g e).2
          simp at h1
          omega
        · have := HO3.out
          rw [byte_push] at this
          rw [List.length_append, List.length_singleton]
          exact this
        · show _ = _
          rw [HE.out, bdig_pos HBB.out.1 HM.out, List.reverse_append, List.append_assoc]
          rfl

/-- What ToBase makes. -/
def toBaseOut (b : Nat) (x : Int) : Out := .ok (.string ⟨(btext b x).toArray⟩)
def tb1 (b : Nat) (zs : List Int) : Out := toBaseOut b (zs.headD 0)

theorem tobase1_c (lv : Value) (pb : Addr) (x : Int) (b : Nat) (w : World) (h : Whs w lv [x]) (ht : Tabs w) (hpb : w.cell? pb = some (.int .i64 (b : Int))) (hb : 2 ≤ b) (hb2 : b ≤ 36) (hx : x.natAbs < 10 ^ 200) :
    Calls Tryz.prog 82 #[lv, .pointer (some pb)] w fun e w' => e = (toBaseOut b x).end_ ∧ Below w.heap.size w w' := by
  by_cases h0 : x = 0
  · subst h0
    rw [show toBaseOut b 0 = .ok (.string ⟨#[48]⟩) from by unfold toBaseOut btext; rw [if_pos rfl]]
    exact tobase1_zero lv pb w h
  · exact tobase1_pos lv pb x b w h ht hpb hb hb2 hx h0

set_option maxHeartbeats 1000000 in
theorem numToBase_c (S : ByteArray) (b : Nat) (hb : 2 ≤ b) (hb2 : b ≤ 36) (w : World) (ht : Tabs w) : Calls Tryz.prog 36 #[.string S, .int .i64 (b : Int)] w (Un S (toBaseOut b) (.string ⟨#[]⟩) w) := by
  have HT := Lib.hid ht
  have HBB := Lib.hid (And.intro hb hb2)
  have h1 : decide ((b : Int) < 2) = false := by simp; omega
  have h2 : decide (36 < (b : Int)) = false := by simp; omega
  have h3 : ¬ (b : Int) < 2 := by omega
  have h4 : ¬ 36 < (b : Int) := by omega
  clear ht hb hb2
  go_enter Tryz.func36, Tryz.ntmps36
  go_wp2_with (go_at_call 55; refine (withStr_c 82 #[.pointer (some ⟨w.heap.size, 0, none⟩)] (enters_of Tryz.func82 (by kernel_rfl) rfl) _ [S] (tb1 b) _ (by have := strs_one (w.alloc (.cells #[.int .i64 (b : Int)] 3)) S 9; simpa using this) (by simp) ?hf).mono ?_)
  case hf =>
    intro zs hz W lv hb hw
    obtain ⟨x, rfl, hx⟩ := one_zs hz
    have hc : ((w.alloc (.cells #[.int .i64 (b : Int)] 3)).alloc (.cells #[.string S] 9)).cell? ⟨w.heap.size, 0, none⟩ = some (.int .i64 (b : Int)) := keep_cell ((Below.refl _ _).alloc (Nat.le_refl _) _) (new_cell w #[.int .i64 (b : Int)] 3 0)
    exact tobase1_c lv ⟨w.heap.size, 0, none⟩ x b W hw (HT.out.below (Below.trans (((Below.refl w.heap.size w).alloc (Nat.le_refl _) _).alloc (by simp) _) (hb.mono (by first | (simp; done) | (simp; omega) | omega)))) (keep_cell (by simpa using hb) hc) HBB.out.1 HBB.out.2 hx.2
  rintro e w' h
  obtain ⟨a, c, rfl, hr⟩ := with_one (f := toBaseOut b) (show WithP [S] (fun zs => toBaseOut b (zs.headD 0)) _ _ _ _ from h) (((Below.refl w.heap.size w).alloc (Nat.le_refl _) _).alloc (by simp) _)
  have HR := Lib.hid hr
  clear h hr
  go_wp2
  go_ret2
  exact HR.out

set_option maxHeartbeats 1000000 in
theorem numToBase_bad (S : ByteArray) (b : Int) (hb : b < 2 ∨ 36 < b) (w : World) : Calls Tryz.prog 36 #[.string S, .int .i64 b] w fun e w' => e = .returned (.tuple #[.string ⟨#[]⟩, .int .i64 1]) ∧ Below w.heap.size w w' := by
  by_cases h : b < 2
  · have h1 : decide (b < 2) = true := by simp [h]
    clear hb
    go_enter Tryz.func36, Tryz.ntmps36
    go_wp2
    go_ret2
    exact ⟨rfl, (by repeat (first | exact Below.refl _ _ | exact HB.out | (refine Below.alloc ?_ (by first | (simp; done) | (simp; omega)) _) | (refine Below.setCell ?_ (by first | (simp; done) | (simp; omega)) _) | refine Below.drew ?_ | refine below_drewN ?_ _))⟩
  · have h1 : decide (b < 2) = false := by simp; omega
    have h3 : 36 < b := by omega
    have h2 : decide (36 < b) = true := by simp [h3]
    clear hb
    go_enter Tryz.func36, Tryz.ntmps36
    go_wp2
    go_ret2
    exact ⟨rfl, (by repeat (first | exact Below.refl _ _ | exact HB.out | (refine Below.alloc ?_ (by first | (simp; done) | (simp; omega)) _) | (refine Below.setCell ?_ (by first | (simp; done) | (simp; omega)) _) | refine Below.drew ?_ | refine below_drewN ?_ _))⟩

end Go.Proofs.YtbjgpbdkofadiaaGreatDoor

namespace Go.Proofs.YtbjgpbdkofadiaaGreatDoor
set_option linter.unusedVariables false
set_option linter.unusedSimpArgs false
open Go.RowKit Go.Shelf Go.Proofs

/-- A number's index in a table. -/
theorem index_g (n c : Nat) (xv : Int) (tv : Nat → Int) (w : World) (hn : n ≤ 36) (hc : ∀ d, d < 36 → w.cell? ⟨0, d, none⟩ = some (.int .u8 (tv d))) :
    Calls Tryz.prog 86 #[.slice (some ⟨0, 0, none⟩) n c, .int .u8 xv] w fun e w' => (∃ r : Int, e = .returned (.int .i64 r) ∧ ((∃ d, tv d = xv ∧ d < n ∧ r = d) ∨ ((¬ ∃ d, tv d = xv ∧ d < n) ∧ r = -1))) ∧ w = w' := by
  have HC := Lib.hid hc
  clear hc
  go_enter Tryz.func86, Tryz.ntmps86
  go_wp2_with fail
  go_loopg [8] n (fun gk iv wr => ∃ i : Nat, iv = .int .i64 i ∧ i + gk = n ∧ Hid (∀ d, d < i → tv d ≠ xv) ∧ wr = w)
  case atStart => exact ⟨0, rfl, by omega, fun d hd => by omega, rfl⟩
  case round =>
    obtain ⟨i, rfl, hg, HN, rfl⟩ := hrel
    have HGK := Lib.hid hg
    by_cases hlt : i < n
    · have hcell := HC.out i (by omega)
      have HLT := Lib.hid hlt
      obtain ⟨cv, hcv⟩ : ∃ cv : Int, tv i = cv := ⟨_, rfl⟩
      have HCV := Lib.hid hcv
      rw [hcv] at hcell
      have hi9 : i < 9223372036854775807 := by omega
      by_cases hq : xv = cv
      · have HQ := Lib.hid hq
        have hb : (xv == cv) = true := by simp [hq]
        clear hg hlt hcv
        go_wp2
        go_ret
        exact ⟨⟨_, rfl, .inl ⟨i, by rw [HCV.out, HQ.out], HLT.out, rfl⟩⟩, rfl⟩
      · have HQ := Lib.hid hq
        have hb : (xv == cv) = false := by simp [hq]
        clear hg hlt hcv
        go_wp2
        go_roundg (gk - 1)
        case measure => have h1 := HGK.out; have h2 := HLT.out; omega
        case rel =>
          refine ⟨i + 1, by simp, by have h1 := HGK.out; have h2 := HLT.out; omega, fun d hd e => ?_, rfl⟩
          rcases Nat.lt_or_ge d i with h | h
          · exact HN.out d h e
          · obtain rfl : d = i := by omega
            exact HQ.out (e.symm.trans HCV.out)
    · have hi : i = n := by omega
      subst hi
      clear hg hlt
      go_wp2
      go_ret
      exact ⟨⟨_, rfl, .inr ⟨fun ⟨d, h1, h2⟩ => HN.out d h2 h1, rfl⟩⟩, rfl⟩
/-- A digit's index among the first n digits. -/
theorem index_c (n c : Nat) (x : UInt8) (w : World) (hn : n ≤ 36) (hc : ∀ d, d < 36 → w.cell? ⟨0, d, none⟩ = some (.int .u8 ((chr d).toNat : Int))) :
    Calls Tryz.prog 86 #[.slice (some ⟨0, 0, none⟩) n c, .int .u8 (x.toNat : Int)] w fun e w' => (∃ r : Int, e = .returned (.int .i64 r) ∧ ((∃ d, idxOf x = some d ∧ d < n ∧ r = d) ∨ ((¬ ∃ d, idxOf x = some d ∧ d < n) ∧ r = -1))) ∧ w = w' := by
  have key : ∀ d, d < n → (((chr d).toNat : Int) = (x.toNat : Int) ↔ idxOf x = some d) := fun d hd => by
    constructor
    · intro e
      have : chr d = x := UInt8.toNat_inj.1 (by omega)
      rw [← this]; exact idxOf_chr (by omega)
    · intro e
      rw [(chr_idxOf e).2]
  refine (index_g n c _ (fun d => ((chr d).toNat : Int)) w hn hc).mono ?_
  rintro e w' ⟨⟨r, he, hr⟩, hw⟩
  refine ⟨⟨r, he, ?_⟩, hw⟩
  rcases hr with ⟨d, h1, h2, h3⟩ | ⟨h1, h2⟩
  · exact .inl ⟨d, (key d h2).1 h1, h2, h3⟩
  · exact .inr ⟨fun ⟨d, h3, h4⟩ => h1 ⟨d, (key d h4).2 h3, h4⟩, h2⟩

set_option maxHeartbeats 1000000 in
theorem fb_range (S : ByteArray) (b : Int) (w : World) (hb : b < 2 ∨ 36 < b) :
    Calls Tryz.prog 37 #[.string S, .int .i64 b] w fun e w' => e = .returned (.tuple #[.string ⟨#[]⟩, .int .i64 1]) ∧ Below w.heap.size w w' := by
  by_cases h : b < 2
  · have h1 : decide (b < 2) = true := by simp [h]
    clear hb
    go_enter_defers Tryz.func37, Tryz.ntmps37
    go_wp2
    have r0 := new_cell w #[.int .i64 1] 24 0
    simp at r0
    simp [bodyPostD, Leaves, results, Tryz.results37, go_sem, r0]
    exact (by repeat (first | exact Below.refl _ _ | exact HB.out | (refine Below.alloc ?_ (by first | (simp; done) | (simp; omega)) _) | (refine Below.setCell ?_ (by first | (simp; done) | (simp; omega)) _) | refine Below.drew ?_ | refine below_drewN ?_ _))
  · have h1 : decide (b < 2) = false := by simp; omega
    have h3 : 36 < b := by omega
    have h2 : decide (36 < b) = true := by simp [h3]
    clear hb
    go_enter_defers Tryz.func37, Tryz.ntmps37
    go_wp2
    have r0 := new_cell w #[.int .i64 1] 24 0
    simp at r0
    simp [bodyPostD, Leaves, results, Tryz.results37, go_sem, r0]
    exact (by repeat (first | exact Below.refl _ _ | exact HB.out | (refine Below.alloc ?_ (by first | (simp; done) | (simp; omega)) _) | (refine Below.setCell ?_ (by first | (simp; done) | (simp; omega)) _) | refine Below.drew ?_ | refine below_drewN ?_ _))

/-- What FromBase answers to a text of another form. -/
def FormErr (w : World) (e : Ending) (w' : World) : Prop := e = .returned (.tuple #[.string ⟨#[]⟩, .int .i64 7]) ∧ Below w.heap.size w w'

set_option maxHeartbeats 1000000 in
theorem fb_empty (S : ByteArray) (b : Nat) (hb : 2 ≤ b) (hb2 : b ≤ 36) (w : World) (h : Lib.trimPrefix S.data.toList [45] = []) :
    Calls Tryz.prog 37 #[.string S, .int .i64 (b : Int)] w (FormErr w) := by
  have h1 : decide ((b : Int) < 2) = false := by simp; omega
  have h2 : decide (36 < (b : Int)) = false := by simp; omega
  have h3 : ¬ (b : Int) < 2 := by omega
  have h4 : ¬ 36 < (b : Int) := by omega
  have HH := Lib.hid h
  clear h hb hb2
  go_enter_defers Tryz.func37, Tryz.ntmps37
  go_wp2_with (go_at_call 85; refine (Tryz.strings_CutPrefix S _ _).mono ?_; rintro e W3 ⟨rfl, rfl⟩; rw [show (ByteArray.mk #[45]).data.toList = [45] from rfl, HH.out])
  have r0 := new_cell w #[.int .i64 7] 24 0
  simp at r0
  simp [bodyPostD, Leaves, results, Tryz.results37, go_sem, r0]
  exact ⟨rfl, (by repeat (first | exact Below.refl _ _ | exact HB.out | (refine Below.alloc ?_ (by first | (simp; done) | (simp; omega)) _) | (refine Below.setCell ?_ (by first | (simp; done) | (simp; omega)) _) | refine Below.drew ?_ | refine below_drewN ?_ _))⟩

/-- The bytes of a string, in memory of their own. -/
theorem bytes_new (W : World) (D : ByteArray) : ∃ W1 c, (convert 9 101 (.string D)).run Tryz.prog W = .ok (.slice (some ⟨W.heap.size, 0, none⟩) D.size c) W1 ∧ Below W.heap.size W W1 ∧ W.heap.size < W1.heap.size ∧ ∀ j (hj : j < D.size), W1.cell? ⟨W.heap.size, j, none⟩ = some (.int .u8 ((D[j]'hj).toNat : Int)) := by
  refine ⟨_, _, run_bytes_of_string W _ _ 5 D Tryz.underlying9 Tryz.underlying101 Tryz.underlying5, (Below.refl _ _).drew.alloc (Nat.le_refl _) _, by simp, fun j hj => ?_⟩
  exact (cell_of_heap (heap_alloc_new W.drew _) j).trans (bytesRow_at D _ j hj)

set_option maxRecDepth 100000 in
set_option maxHeartbeats 1000000 in
theorem fb_zero (S : ByteArray) (b : Nat) (hb : 2 ≤ b) (hb2 : b ≤ 36) (w : World) (D : ByteArray) (hD : (⟨(Lib.trimPrefix S.data.toList [45]).toArray⟩ : ByteArray) = D) (hpos : 0 < D.size) (hc : ((D[0]'hpos).toNat : Int) = 48) (hs : ¬ S.toList = [48]) :
    Calls Tryz.prog 37 #[.string S, .int .i64 (b : Int)] w (FormErr w) := by
  have h1 : decide ((b : Int) < 2) = false := by simp; omega
  have h2 : decide (36 < (b : Int)) = false := by simp; omega
  have h3 : ¬ (b : Int) < 2 := by omega
  have h4 : ¬ 36 < (b : Int) := by omega
  have HD := Lib.hid hD
  have hae : D.toList.isEmpty = false := by
    simp only [ByteArray.toList_eq]
    cases h : D.data.toList with
    | nil => have := congrArg List.length h; rw [Array.length_toList] at this; exact absurd this (by show D.size ≠ 0; omega)
    | cons a l => rfl
  have ha : ¬ D.toList = [] := by intro e; rw [e] at hae; cases hae
  have hsb : (S.toList == [48]) = false := by simp [hs]
  clear hD hb hb2
  go_enter_defers Tryz.func37, Tryz.ntmps37
  go_wp2_with (go_at_call 85; refine (Tryz.strings_CutPrefix S _ _).mono ?_; rintro e W3 ⟨rfl, rfl⟩; rw [show (ByteArray.mk #[45]).data.toList = [45] from rfl, HD.out])
  have r0 := new_cell w #[.int .i64 7] 24 0
  simp at r0
  simp [bodyPostD, Leaves, results, Tryz.results37, go_sem, r0]
  exact ⟨rfl, (by repeat (first | exact Below.refl _ _ | exact HB.out | (refine Below.alloc ?_ (by first | (simp; done) | (simp; omega)) _) | (refine Below.setCell ?_ (by first | (simp; done) | (simp; omega)) _) | refine Below.drew ?_ | refine below_drewN ?_ _))⟩

theorem prefix_head (l : List UInt8) : Lib.hasPrefix l [45] = decide (l.head? = some 45) := by
  cases l with
  | nil => rfl
  | cons c r =>
    simp only [Lib.hasPrefix, List.isPrefixOf, List.head?_cons, Option.some.injEq, Bool.and_true]
    rw [Bool.eq_iff_iff, beq_iff_eq, decide_eq_true_iff]
    exact eq_comm

theorem cut1_c (a : Addr) (d : Nat) (w : World) (hd : d < 1000000000) (hr : Row .i64 w (some a) [(d : Int)]) : Calls Tryz.prog 89 #[.slice (some a) 1 1] w fun e w' => w = w' ∧ ∃ v, e = .returned v ∧ Dg 1000000000 w' v d := by
  refine (cut_c (some a) 1 [(d : Int)] w hr (by simp) (by omega)).mono ?_
  intro e w' hcut
  obtain ⟨rfl, v, rfl, hdg, _⟩ := cut_dg (b := 1000000000) (n := d) (by decide) hr (by simp) (by omega) (InR.cons (by omega) (by omega) (InR.nil _)) (by simp [val]) hcut
  exact ⟨rfl, v, rfl, hdg⟩

/-- What FromBase makes. -/
def FromP (b : Nat) (S : ByteArray) (w : World) (e : Ending) (w' : World) : Prop := e = .returned ((textOut (fromB b S.data.toList)).res (.string ⟨#[]⟩)) ∧ Below w.heap.size w w'

set_option maxRecDepth 100000 in
set_option maxHeartbeats 4000000 in
theorem fb_digits (S : ByteArray) (b : Nat) (hb : 2 ≤ b) (hb2 : b ≤ 36) (w : World) (ht : Tabs w) (D : ByteArray) (hD : (⟨(Lib.trimPrefix S.data.toList [45]).toArray⟩ : ByteArray) = D) (hpos : 0 < D.size) (hdl : D.size ≤ 1000) (hc : (((D[0]'hpos).toNat : Int) == 48) = true ∧ (S.toList == [48]) = true ∨ (((D[0]'hpos).toNat : Int) == 48) = false) :
    Calls Tryz.prog 37 #[.string S, .int .i64 (b : Int)] w fun e w' => (bdigs b D.data.toList ∧ FromP b S w e w') ∨ (¬ bdigs b D.data.toList ∧ FormErr w e w') := by
  have h1 : decide ((b : Int) < 2) = false := by simp; omega
  have h2 : decide (36 < (b : Int)) = false := by simp; omega
  have h3 : ¬ (b : Int) < 2 := by omega
  have h4 : ¬ 36 < (b : Int) := by omega
  have HD := Lib.hid hD
  have HT := Lib.hid ht
  have HBB := Lib.hid (And.intro hb hb2)
  have hae : D.toList.isEmpty = false := by
    simp only [ByteArray.toList_eq]
    cases h : D.data.toList with
    | nil => have := congrArg List.length h; rw [Array.length_toList] at this; exact absurd this (by show D.size ≠ 0; omega)
    | cons a l => rfl
  have ha : ¬ D.toList = [] := by intro e; rw [e] at hae; cases hae
  obtain ⟨W, hW, kk, ff, hbel, hsz⟩ := boxes1 w #[.int .i64 0] 24
  have r0 := kk 0
  have g0 := ff 0
  simp at r0
  obtain ⟨W1, cc, hcv, hb1, hs1, hcell⟩ := bytes_new W D
  have HBW : Hid (Below w.heap.size w W1) := below_then' hbel.to hb1
  have HB1 := Lib.hid hb1
  have HCL := Lib.hid hcell
  have q0 := keep_cell hb1 r0
  have z0 := keep_free' hb1 r0 g0
  have HSW : Hid (W.heap.size = w.heap.size + 1) := hsz
  have hd9 : D.size ≤ 9223372036854775806 := by omega
  obtain ⟨neg, hneg⟩ : ∃ neg, Lib.hasPrefix S.data.toList [45] = neg := ⟨_, rfl⟩
  have HNEG := Lib.hid hneg
  have hdig : ∀ d, d < 36 → W1.cell? ⟨0, d, none⟩ = some (.int .u8 ((chr d).toNat : Int)) := fun d hd => digit_cell (HT.out.below HBW.out) d hd
  have HDIG := Lib.hid hdig
  have HDL := Lib.hid hdl
  clear hD hb hb2 ht kk ff hbel hb1 hs1 hcell hsz hdig hneg hdl
  have key : Hid (∀ (R : Ending → World → Prop), True) := fun _ => trivial
  rcases hc with ⟨hc, hsb⟩ | hc
  · go_enter_defers Tryz.func37, Tryz.ntmps37
    go_wp2_with (go_at_call 85; refine (Tryz.strings_CutPrefix S _ _).mono ?_; rintro e W3 ⟨rfl, rfl⟩; rw [show (ByteArray.mk #[45]).data.toList = [45] from rfl, HD.out, HNEG.out])
    clear hc hsb
    go_loopg [4, 38] D.size (fun gk sv iv wr => ∃ i : Nat, sv = .string ⟨#[]⟩ ∧ iv = .int .i64 i ∧ i + gk = D.size ∧ Hid (∀ j (hj : j < D.size), j < i → ∃ d, idxOf (D[j]'hj) = some d ∧ d < b) ∧ wr = W1)
    case atStart => exact ⟨0, rfl, rfl, by omega, fun j hj h => by omega, rfl⟩
    case round =>
      obtain ⟨i, rfl, rfl, hg, HN, hwr⟩ := hrel
      have hwr' := hwr.symm
      clear hwr
      subst hwr'
      have HGK := Lib.hid hg
      by_cases hlt : i < D.size
      · have hce := HCL.out i hlt
        obtain ⟨x, hx⟩ : ∃ x, D[i]'hlt = x := ⟨_, rfl⟩
        rw [hx] at hce
        have HXX := Lib.hid hx
        have HLT := Lib.hid hlt
        by_cases hq : ∃ d, idxOf x = some d ∧ d < b
        · have HQ := Lib.hid hq
          clear hg hx hq
          go_wp2_with (go_at_call 86; refine (index_c b 36 x _ HBB.out.2 HDIG.out).mono ?_; rintro e V4 ⟨⟨r, rfl, hr⟩, rfl⟩; have hr1 : ¬ r < 0 := (by rcases hr with ⟨d, _, _, rfl⟩ | ⟨hn, _⟩ <;> first | (omega) | exact absurd HQ.out hn); have hr0 : decide (r < 0) = false := decide_eq_false hr1; clear hr)
          go_roundg (gk - 1)
          case measure => have h1 := HGK.out; have h2 := HLT.out; omega
          case rel =>
            refine ⟨i + 1, rfl, by simp, by have h1 := HGK.out; have h2 := HLT.out; omega, fun j hj h => ?_, rfl⟩
            rcases Nat.lt_or_ge j i with h' | h'
            · exact HN.out j hj h'
            · obtain rfl : j = i := by omega
              rw [HXX.out]; exact HQ.out
        · have hnd : ¬ bdigs b D.data.toList := fun hh => hq (by have := hh (D[i]'hlt) (by exact Array.mem_toList_iff.2 (Array.getElem_mem hlt)); rw [hx] at this; exact this)
          have HND := Lib.hid hnd
          have HQ := Lib.hid hq
          clear hg hx hq hnd
          go_wp2_with (go_at_call 86; refine (index_c b 36 x _ HBB.out.2 HDIG.out).mono ?_; rintro e V4 ⟨⟨r, rfl, hr⟩, rfl⟩; obtain rfl : r = -1 := (by rcases hr with ⟨d, h1, h2, _⟩ | ⟨_, hh⟩ <;> first | exact hh | exact absurd ⟨d, h1, h2⟩ HQ.out); clear hr)
          have e0 := set_same (.int .i64 7) q0
          simp [bodyPostD, Leaves, results, Tryz.results37, go_sem, e0]
          exact .inr ⟨HND.out, rfl, HBW.out.setCell (p := ⟨w.heap.size, 0, none⟩) (Nat.le_refl _) _⟩
      · have hall : bdigs b D.data.toList := fun x hx => by
          obtain ⟨j, hj, e⟩ := List.getElem_of_mem hx
          have hj' : j < D.size := by rw [Array.length_toList] at hj; exact hj
          have := HN.out j hj' (by omega)
          rw [← e]; exact this
        have HALL := Lib.hid hall
        obtain ⟨W2, c2, hcv2, hb2', hs2, hcell2⟩ := bytes_new W1 D
        have HCL2 := Lib.hid hcell2
        have HS2 := Lib.hid hs2
        have q2 := keep_cell hb2' q0
        have z2 := keep_free' hb2' q0 z0
        have HB2 := Lib.hid hb2'
        have HBW2 : Hid (Below w.heap.size w W2) := below_then' HBW.out hb2'
        clear hg hall hb2' hs2 hcell2 hcv
        go_wp2_with fail
        go_loopg [10, 51] D.size (fun gk pv iv wr => ∃ (i m : Nat), iv = .int .i64 i ∧ i + gk = D.size ∧ Hid (Dg 1000000000 wr pv m ∧ m = bval b (D.data.toList.take i) ∧ m < 10 ^ 200) ∧ wr.cell? ⟨w.heap.size, 0, none⟩ = some (.int .i64 0) ∧ wr.frozen? ⟨w.heap.size, 0, none⟩ = false ∧ Hid (Below W2.heap.size W2 wr))
        case atStart => exact ⟨0, 0, rfl, by omega, ⟨Dg.zero (by decide) .., by simp [bval], by decide⟩, q2, z2, Below.refl _ _⟩
        case round =>
          obtain ⟨i, m, rfl, hg, HG, p0, f0, HB⟩ := hrel
          have HGK := Lib.hid hg
          obtain ⟨A8, n8, c8, rfl⟩ := HG.out.1.form
          by_cases hlt : i < D.size
          · have hce := keep_cell HB.out (HCL2.out i hlt)
            obtain ⟨x, hx⟩ : ∃ x, D[i]'hlt = x := ⟨_, rfl⟩
            rw [hx] at hce
            have hce2 : wr.drew.cell? ⟨W1.heap.size, i, none⟩ = some (.int .u8 (x.toNat : Int)) := hce
            obtain ⟨d, hd1, hd2⟩ := HALL.out x (by rw [← hx]; exact Array.mem_toList_iff.2 (Array.getElem_mem hlt))
            have HD36 : Hid (d < 36) := Nat.lt_of_lt_of_le hd2 HBB.out.2
            have HXD := Lib.hid hd1
            obtain ⟨m2, hm2⟩ : ∃ m2, m * b + d = m2 := ⟨_, rfl⟩
            have HM2 := Lib.hid hm2
            have HLT := Lib.hid hlt
            have hval : bval b (D.data.toList.take (i + 1)) = m2 := by
              rw [List.take_succ_eq_append_getElem (by rw [Array.length_toList]; exact hlt), bval_snoc, ← HG.out.2.1, ← hm2]
              congr 1
              have : D.data.toList[i]'(by rw [Array.length_toList]; exact hlt) = x := by rw [← hx]; rfl
              rw [this, hd1]; rfl
            have HVAL := Lib.hid hval
            have HTW : Hid (∀ W', Below wr.heap.size wr W' → ∀ d, d < 36 → W'.cell? ⟨0, d, none⟩ = some (.int .u8 ((chr d).toNat : Int))) := fun W' hW' d hd => digit_cell (HT.out.below (below_then' (below_then' HBW2.out HB.out) hW')) d hd
            have HLM : Hid ((dg 1000000000 m).length ≤ 1000000) := Nat.le_trans (len23 HG.out.2.2) (by decide)
            have hmb : m * b < 10 ^ 202 := by
              have h1 := HG.out.2.2
              have h2 : m * b ≤ m * 36 := Nat.mul_le_mul_left _ HBB.out.2
              omega
            have HLMB : Hid ((dg 1000000000 (m * b)).length ≤ 1000000) := Nat.le_trans (dg_len_small (by omega)) (by decide)
            have HLD : Hid ((dg 1000000000 d).length ≤ 1000000) := Nat.le_trans (dg_len_small (by have := HD36.out; omega)) (by decide)
            have HLM2 : Hid ((dg 1000000000 (m2 : Int).natAbs).length ≤ 1000000) := by show _ ≤ _; rw [Int.natAbs_natCast, ← hm2]; exact Nat.le_trans (dg_len_small (by have := HD36.out; omega)) (by decide)
            have HB9 : Hid (b < 1000000000) := by show _ < _; have := HBB.out.2; omega
            have HD9 : Hid (d < 1000000000) := by show _ < _; have := HD36.out; omega
            obtain ⟨o, ho⟩ : ∃ o, textOut (m2 : Int) = o := ⟨_, rfl⟩
            have HO := Lib.hid ho
            have hib : i < 9223372036854775807 := by omega
            clear hg hx hd1 hd2 hm2 hval hmb ho hce2
            go_wp2_with fail
            go_region_held3 (fun _ => True) (trivial) (first
              | (go_at_call 88; refine (small_c _ m b _ (HG.out.1.below (by first | exact HW3.out | (repeat (first | exact Below.refl _ _ | (refine Below.alloc ?_ (by first | (simp; done) | (simp; omega)) _) | refine Below.drew ?_)))) HLM.out HB9.out).mono ?_; rintro e V3 ⟨u, rfl, hu, -, hbz⟩; obtain ⟨A9, n9, c9, rfl⟩ := hu.form; have HU := Lib.hid hu; have HBZ := Lib.hid hbz; have HW3 := Lib.hid (below_then' (show Below wr.heap.size wr _ from (by first | exact HW3.out | (repeat (first | exact Below.refl _ _ | (refine Below.alloc ?_ (by first | (simp; done) | (simp; omega)) _) | refine Below.drew ?_)))) hbz); clear hu hbz)
              | (go_at_call 86; refine (index_c 36 36 x _ (by decide) (HTW.out _ (by first | exact HW3.out | (repeat (first | exact Below.refl _ _ | (refine Below.alloc ?_ (by first | (simp; done) | (simp; omega)) _) | refine Below.drew ?_))))).mono ?_; rintro e V4 ⟨⟨r, rfl, hr⟩, rfl⟩; obtain rfl : r = (d : Int) := (by rcases hr with ⟨d', h1, _, rfl⟩ | ⟨hn, _⟩ <;> first | (rw [HXD.out] at h1; cases h1; rfl) | exact absurd ⟨d, HXD.out, HD36.out⟩ hn); clear hr)
              | (go_at_call 89; refine (cut1_c _ d _ HD9.out ?_).mono ?_; (first | (with_reducible exact lit_row _ _ _) | exact (lit_row _ _ _).below HBZ.out); rintro e V5 ⟨rfl, v, rfl, hv⟩; obtain ⟨A7, n7, c7, rfl⟩ := hv.form; have HV := Lib.hid hv; clear hv)
              | (go_at_call 76; refine (plus_c _ _ (m * b) d _ ?_ ?_ HLMB.out HLD.out).mono ?_; (first | (with_reducible exact HU.out) | exact HU.out.below ((Below.refl _ _).alloc (Nat.le_refl _) _)); (first | (with_reducible exact HV.out) | exact HV.out.below HBZ.out); rintro e V6 ⟨s, rfl, hs, -, hbz⟩; obtain ⟨A6, n6, c6, rfl⟩ := hs.form; have HS6 := Lib.hid hs; have HW6 := Lib.hid (below_then' (show Below wr.heap.size wr _ from (by repeat (first | exact HW3.out | exact Below.refl _ _ | (refine Below.alloc ?_ (by first | (simp; done) | (have := HW3.out.size; simp; omega)) _) | refine Below.drew ?_))) hbz); clear hs hbz))
            have p6 := keep_cell HW6.out p0
            have f6 := keep_free' HW6.out p0 f0
            have HB6 := Lib.hid (below_then' HB.out HW6.out)
            have HBW6 : Hid (Below w.heap.size w _) := below_then' (below_then' HBW2.out HB.out) HW6.out
            have HSM := HS6.out
            rw [HM2.out] at HSM
            have HWS : Hid (Wh _ (.agg #[.bool false, .slice A6 n6 c6]) (m2 : Int)) := ⟨_, by rw [decide_eq_false (by omega)], HSM⟩
            have HSM2 := Lib.hid HSM
            clear HSM
            cases o with
            | ok r =>
              go_wp2_with (go_at_call 58; refine (text_out _ (m2 : Int) _ HWS.out (HT.out.below HBW6.out) HLM2.out).mono ?_; rw [HO.out]; rintro e V7 ⟨he, hbz⟩; have he2 : e = .returned r := he; subst he2; have f7 := keep_free' hbz p6 f6; have p7 := keep_cell hbz p6; have HB7 := Lib.hid (below_then' HB6.out hbz); have HSM7 := Lib.hid (HSM2.out.below hbz); clear he hbz)
              go_roundg (gk - 1)
              case measure => have h1 := HGK.out; have h2 := HLT.out; omega
              case rel =>
                refine ⟨i + 1, m2, by simp, by have h1 := HGK.out; have h2 := HLT.out; omega, ⟨HSM7.out, HVAL.out.symm, ?_⟩, p7, f7, HB7.out⟩
                have := HO.out
                unfold textOut at this
                split at this
                · rename_i hh; simpa using hh
                · cases this
            | err k =>
              go_wp2_with (go_at_call 58; refine (text_out _ (m2 : Int) _ HWS.out (HT.out.below HBW6.out) HLM2.out).mono ?_; rw [HO.out]; rintro e V7 ⟨he, hbz⟩; have he2 : e = .panicked (failChain k) := he; subst he2; have f7 := keep_free' hbz p6 f6; have p7 := keep_cell hbz p6; have HB7 := Lib.hid (below_then' HBW6.out hbz); clear he hbz)
              refine leaves_cons (f := 87) (args := #[.pointer (some ⟨w.heap.size, 0, none⟩)]) (by simp) (by simp [go_sem]) ?_
              refine (guard_panic ⟨w.heap.size, 0, none⟩ k (.int .i64 0) _ p7 f7).mono ?_
              rintro e u' w'' ⟨rfl, rfl, rfl⟩
              have e0 := set_same (.int .i64 k) (keep_cell ((Below.refl _ V7).alloc (Nat.le_refl _) (.cells #[.int .i64 k] 77)) p7)
              have hk : k = 3 ∧ ¬ m2 < 10 ^ 200 := by
                have := HO.out
                unfold textOut at this
                split at this
                · cases this
                · rename_i hh; cases this; exact ⟨rfl, by simpa using hh⟩
              obtain ⟨rfl, hbig⟩ := hk
              have hbig2 : ¬ (fromB b S.data.toList).natAbs < 10 ^ 200 := by
                have hle := bval_take_le HBB.out.1 D.data.toList (i + 1)
                rw [HVAL.out] at hle
                have hDl : Lib.trimPrefix S.data.toList [45] = D.data.toList := by rw [← HD.out]
                unfold fromB
                rw [hDl]
                split
                · rw [Int.natAbs_neg, Int.natAbs_natCast]; omega
                · rw [Int.natAbs_natCast]; omega
              have hto : textOut (fromB b S.data.toList) = .err 3 := if_neg hbig2
              simp [Leaves, settle, results, Tryz.results37, go_sem, e0]
              refine .inl ⟨HALL.out, ?_, (HB7.out.alloc HB7.out.size _).setCell (p := ⟨w.heap.size, 0, none⟩) (Nat.le_refl _) _⟩
              rw [hto]; rfl
          · have hi : i = D.size := by omega
            have HM : Hid (m = bval b D.data.toList) := by show _ = _; rw [HG.out.2.1, hi, List.take_of_length_le (by rw [Array.length_toList]; exact Nat.le_refl _)]
            have hDl : Lib.trimPrefix S.data.toList [45] = D.data.toList := by rw [← HD.out]
            have hneg2 : neg = decide (S.data.toList.head? = some 45) := by rw [← HNEG.out]; exact prefix_head _
            obtain ⟨z, hz⟩ : ∃ z, fromB b S.data.toList = z := ⟨_, rfl⟩
            have hzn : z.natAbs = m := by
              rw [← hz]; unfold fromB; rw [hDl, ← HM.out]
              split
              · rw [Int.natAbs_neg, Int.natAbs_natCast]
              · rw [Int.natAbs_natCast]
            have hzs : (neg && decide (0 < m)) = decide (z < 0) := by
              rw [hneg2, ← hz]; unfold fromB; rw [hDl, ← HM.out]
              by_cases hh : S.data.toList.head? = some 45
              · rw [if_pos hh, decide_eq_true hh, Bool.true_and, decide_eq_decide]; omega
              · rw [if_neg hh, decide_eq_false hh, Bool.false_and]; symm; rw [decide_eq_false_iff_not]; omega
            have HZ := Lib.hid hz
            have HZF : Hid (textOut z = .ok (.string ⟨(Lib.itoa z).toArray⟩)) := if_pos (by rw [hzn]; exact HG.out.2.2)
            have HLZ : Hid ((dg 1000000000 z.natAbs).length ≤ 1000000) := by show _ ≤ _; rw [hzn]; exact Nat.le_trans (len23 HG.out.2.2) (by decide)
            have HWZ : Hid (Wh wr (.agg #[.bool (neg && decide (0 < m)), .slice A8 n8 c8]) z) := ⟨_, by rw [hzs], by rw [hzn]; exact HG.out.1⟩
            have HBW8 : Hid (Below w.heap.size w wr) := below_then' HBW2.out HB.out
            clear hg hi hDl hneg2 hz hzn hzs
            go_wp2_with (first
              | (go_at_call 60; refine (made_c _ _ m _ HG.out.1).mono ?_; rintro e V7 ⟨rfl, hbz⟩; have f7 := keep_free' hbz p0 f0; have p7 := keep_cell hbz p0; have HWZ7 := Lib.hid (HWZ.out.below hbz); have HB7 := Lib.hid (below_then' HBW8.out hbz); obtain ⟨bz, hbzz⟩ : ∃ bz, (neg && decide (0 < m)) = bz := ⟨_, rfl⟩; rw [hbzz]; rw [hbzz] at HWZ7; clear hbz hbzz)
              | (go_at_call 58; refine (text_out _ z _ HWZ7.out (HT.out.below HB7.out) HLZ.out).mono ?_; rw [HZF.out]; rintro e V8 ⟨he, hbz⟩; have he2 : e = .returned (.string ⟨(Lib.itoa z).toArray⟩) := he; subst he2; have f8 := keep_free' hbz p7 f7; have p8 := keep_cell hbz p7; have HB8 := Lib.hid (below_then' HB7.out hbz); clear he hbz))
            refine leaves_cons (f := 87) (args := #[.pointer (some ⟨w.heap.size, 0, none⟩)]) (by simp) (by simp [go_sem]) ?_
            refine (guard_idle ⟨w.heap.size, 0, none⟩ _).mono ?_
            rintro e u' w'' ⟨rfl, rfl, rfl⟩
            have e0 := set_same (.int .i64 0) p8
            simp [Leaves, settle, results, Tryz.results37, go_sem, e0]
            refine .inl ⟨HALL.out, ?_, HB8.out.setCell (p := ⟨w.heap.size, 0, none⟩) (Nat.le_refl _) _⟩
            rw [HZ.out, HZF.out]; rfl
  · go_enter_defers Tryz.func37, Tryz.ntmps37
    go_wp2_with (go_at_call 85; refine (Tryz.strings_CutPrefix S _ _).mono ?_; rintro e W3 ⟨rfl, rfl⟩; rw [show (ByteArray.mk #[45]).data.toList = [45] from rfl, HD.out, HNEG.out])
    clear hc
    go_loopg [4, 38] D.size (fun gk sv iv wr => ∃ i : Nat, sv = .string ⟨#[]⟩ ∧ iv = .int .i64 i ∧ i + gk = D.size ∧ Hid (∀ j (hj : j < D.size), j < i → ∃ d, idxOf (D[j]'hj) = some d ∧ d < b) ∧ wr = W1)
    case atStart => exact ⟨0, rfl, rfl, by omega, fun j hj h => by omega, rfl⟩
    case round =>
      obtain ⟨i, rfl, rfl, hg, HN, hwr⟩ := hrel
      have hwr' := hwr.symm
      clear hwr
      subst hwr'
      have HGK := Lib.hid hg
      by_cases hlt : i < D.size
      · have hce := HCL.out i hlt
        obtain ⟨x, hx⟩ : ∃ x, D[i]'hlt = x := ⟨_, rfl⟩
        rw [hx] at hce
        have HXX := Lib.hid hx
        have HLT := Lib.hid hlt
        by_cases hq : ∃ d, idxOf x = some d ∧ d < b
        · have HQ := Lib.hid hq
          clear hg hx hq
          go_wp2_with (go_at_call 86; refine (index_c b 36 x _ HBB.out.2 HDIG.out).mono ?_; rintro e V4 ⟨⟨r, rfl, hr⟩, rfl⟩; have hr1 : ¬ r < 0 := (by rcases hr with ⟨d, _, _, rfl⟩ | ⟨hn, _⟩ <;> first | (omega) | exact absurd HQ.out hn); have hr0 : decide (r < 0) = false := decide_eq_false hr1; clear hr)
          go_roundg (gk - 1)
          case measure => have h1 := HGK.out; have h2 := HLT.out; omega
          case rel =>
            refine ⟨i + 1, rfl, by simp, by have h1 := HGK.out; have h2 := HLT.out; omega, fun j hj h => ?_, rfl⟩
            rcases Nat.lt_or_ge j i with h' | h'
            · exact HN.out j hj h'
            · obtain rfl : j = i := by omega
              rw [HXX.out]; exact HQ.out
        · have hnd : ¬ bdigs b D.data.toList := fun hh => hq (by have := hh (D[i]'hlt) (by exact Array.mem_toList_iff.2 (Array.getElem_mem hlt)); rw [hx] at this; exact this)
          have HND := Lib.hid hnd
          have HQ := Lib.hid hq
          clear hg hx hq hnd
          go_wp2_with (go_at_call 86; refine (index_c b 36 x _ HBB.out.2 HDIG.out).mono ?_; rintro e V4 ⟨⟨r, rfl, hr⟩, rfl⟩; obtain rfl : r = -1 := (by rcases hr with ⟨d, h1, h2, _⟩ | ⟨_, hh⟩ <;> first | exact hh | exact absurd ⟨d, h1, h2⟩ HQ.out); clear hr)
          have e0 := set_same (.int .i64 7) q0
          simp [bodyPostD, Leaves, results, Tryz.results37, go_sem, e0]
          exact .inr ⟨HND.out, rfl, HBW.out.setCell (p := ⟨w.heap.size, 0, none⟩) (Nat.le_refl _) _⟩
      · have hall : bdigs b D.data.toList := fun x hx => by
          obtain ⟨j, hj, e⟩ := List.getElem_of_mem hx
          have hj' : j < D.size := by rw [Array.length_toList] at hj; exact hj
          have := HN.out j hj' (by omega)
          rw [← e]; exact this
        have HALL := Lib.hid hall
        obtain ⟨W2, c2, hcv2, hb2', hs2, hcell2⟩ := bytes_new W1 D
        have HCL2 := Lib.hid hcell2
        have HS2 := Lib.hid hs2
        have q2 := keep_cell hb2' q0
        have z2 := keep_free' hb2' q0 z0
        have HB2 := Lib.hid hb2'
        have HBW2 : Hid (Below w.heap.size w W2) := below_then' HBW.out hb2'
        clear hg hall hb2' hs2 hcell2 hcv
        go_wp2_with fail
        go_loopg [10, 51] D.size (fun gk pv iv wr => ∃ (i m : Nat), iv = .int .i64 i ∧ i + gk = D.size ∧ Hid (Dg 1000000000 wr pv m ∧ m = bval b (D.data.toList.take i) ∧ m < 10 ^ 200) ∧ wr.cell? ⟨w.heap.size, 0, none⟩ = some (.int .i64 0) ∧ wr.frozen? ⟨w.heap.size, 0, none⟩ = false ∧ Hid (Below W2.heap.size W2 wr))
        case atStart => exact ⟨0, 0, rfl, by omega, ⟨Dg.zero (by decide) .., by simp [bval], by decide⟩, q2, z2, Below.refl _ _⟩
        case round =>
          obtain ⟨i, m, rfl, hg, HG, p0, f0, HB⟩ := hrel
          have HGK := Lib.hid hg
          obtain ⟨A8, n8, c8, rfl⟩ := HG.out.1.form
          by_cases hlt : i < D.size
          · have hce := keep_cell HB.out (HCL2.out i hlt)
            obtain ⟨x, hx⟩ : ∃ x, D[i]'hlt = x := ⟨_, rfl⟩
            rw [hx] at hce
            have hce2 : wr.drew.cell? ⟨W1.heap.size, i, none⟩ = some (.int .u8 (x.toNat : Int)) := hce
            obtain ⟨d, hd1, hd2⟩ := HALL.out x (by rw [← hx]; exact Array.mem_toList_iff.2 (Array.getElem_mem hlt))
            have HD36 : Hid (d < 36) := Nat.lt_of_lt_of_le hd2 HBB.out.2
            have HXD := Lib.hid hd1
            obtain ⟨m2, hm2⟩ : ∃ m2, m * b + d = m2 := ⟨_, rfl⟩
            have HM2 := Lib.hid hm2
            have HLT := Lib.hid hlt
            have hval : bval b (D.data.toList.take (i + 1)) = m2 := by
              rw [List.take_succ_eq_append_getElem (by rw [Array.length_toList]; exact hlt), bval_snoc, ← HG.out.2.1, ← hm2]
              congr 1
              have : D.data.toList[i]'(by rw [Array.length_toList]; exact hlt) = x := by rw [← hx]; rfl
              rw [this, hd1]; rfl
            have HVAL := Lib.hid hval
            have HTW : Hid (∀ W', Below wr.heap.size wr W' → ∀ d, d < 36 → W'.cell? ⟨0, d, none⟩ = some (.int .u8 ((chr d).toNat : Int))) := fun W' hW' d hd => digit_cell (HT.out.below (below_then' (below_then' HBW2.out HB.out) hW')) d hd
            have HLM : Hid ((dg 1000000000 m).length ≤ 1000000) := Nat.le_trans (len23 HG.out.2.2) (by decide)
            have hmb : m * b < 10 ^ 202 := by
              have h1 := HG.out.2.2
              have h2 : m * b ≤ m * 36 := Nat.mul_le_mul_left _ HBB.out.2
              omega
            have HLMB : Hid ((dg 1000000000 (m * b)).length ≤ 1000000) := Nat.le_trans (dg_len_small (by omega)) (by decide)
            have HLD : Hid ((dg 1000000000 d).length ≤ 1000000) := Nat.le_trans (dg_len_small (by have := HD36.out; omega)) (by decide)
            have HLM2 : Hid ((dg 1000000000 (m2 : Int).natAbs).length ≤ 1000000) := by show _ ≤ _; rw [Int.natAbs_natCast, ← hm2]; exact Nat.le_trans (dg_len_small (by have := HD36.out; omega)) (by decide)
            have HB9 : Hid (b < 1000000000) := by show _ < _; have := HBB.out.2; omega
            have HD9 : Hid (d < 1000000000) := by show _ < _; have := HD36.out; omega
            obtain ⟨o, ho⟩ : ∃ o, textOut (m2 : Int) = o := ⟨_, rfl⟩
            have HO := Lib.hid ho
            have hib : i < 9223372036854775807 := by omega
            clear hg hx hd1 hd2 hm2 hval hmb ho hce2
            go_wp2_with fail
            go_region_held3 (fun _ => True) (trivial) (first
              | (go_at_call 88; refine (small_c _ m b _ (HG.out.1.below (by first | exact HW3.out | (repeat (first | exact Below.refl _ _ | (refine Below.alloc ?_ (by first | (simp; done) | (simp; omega)) _) | refine Below.drew ?_)))) HLM.out HB9.out).mono ?_; rintro e V3 ⟨u, rfl, hu, -, hbz⟩; obtain ⟨A9, n9, c9, rfl⟩ := hu.form; have HU := Lib.hid hu; have HBZ := Lib.hid hbz; have HW3 := Lib.hid (below_then' (show Below wr.heap.size wr _ from (by first | exact HW3.out | (repeat (first | exact Below.refl _ _ | (refine Below.alloc ?_ (by first | (simp; done) | (simp; omega)) _) | refine Below.drew ?_)))) hbz); clear hu hbz)
              | (go_at_call 86; refine (index_c 36 36 x _ (by decide) (HTW.out _ (by first | exact HW3.out | (repeat (first | exact Below.refl _ _ | (refine Below.alloc ?_ (by first | (simp; done) | (simp; omega)) _) | refine Below.drew ?_))))).mono ?_; rintro e V4 ⟨⟨r, rfl, hr⟩, rfl⟩; obtain rfl : r = (d : Int) := (by rcases hr with ⟨d', h1, _, rfl⟩ | ⟨hn, _⟩ <;> first | (rw [HXD.out] at h1; cases h1; rfl) | exact absurd ⟨d, HXD.out, HD36.out⟩ hn); clear hr)
              | (go_at_call 89; refine (cut1_c _ d _ HD9.out ?_).mono ?_; (first | (with_reducible exact lit_row _ _ _) | exact (lit_row _ _ _).below HBZ.out); rintro e V5 ⟨rfl, v, rfl, hv⟩; obtain ⟨A7, n7, c7, rfl⟩ := hv.form; have HV := Lib.hid hv; clear hv)
              | (go_at_call 76; refine (plus_c _ _ (m * b) d _ ?_ ?_ HLMB.out HLD.out).mono ?_; (first | (with_reducible exact HU.out) | exact HU.out.below ((Below.refl _ _).alloc (Nat.le_refl _) _)); (first | (with_reducible exact HV.out) | exact HV.out.below HBZ.out); rintro e V6 ⟨s, rfl, hs, -, hbz⟩; obtain ⟨A6, n6, c6, rfl⟩ := hs.form; have HS6 := Lib.hid hs; have HW6 := Lib.hid (below_then' (show Below wr.heap.size wr _ from (by repeat (first | exact HW3.out | exact Below.refl _ _ | (refine Below.alloc ?_ (by first | (simp; done) | (have := HW3.out.size; simp; omega)) _) | refine Below.drew ?_))) hbz); clear hs hbz))
            have p6 := keep_cell HW6.out p0
            have f6 := keep_free' HW6.out p0 f0
            have HB6 := Lib.hid (below_then' HB.out HW6.out)
            have HBW6 : Hid (Below w.heap.size w _) := below_then' (below_then' HBW2.out HB.out) HW6.out
            have HSM := HS6.out
            rw [HM2.out] at HSM
            have HWS : Hid (Wh _ (.agg #[.bool false, .slice A6 n6 c6]) (m2 : Int)) := ⟨_, by rw [decide_eq_false (by omega)], HSM⟩
            have HSM2 := Lib.hid HSM
            clear HSM
            cases o with
            | ok r =>
              go_wp2_with (go_at_call 58; refine (text_out _ (m2 : Int) _ HWS.out (HT.out.below HBW6.out) HLM2.out).mono ?_; rw [HO.out]; rintro e V7 ⟨he, hbz⟩; have he2 : e = .returned r := he; subst he2; have f7 := keep_free' hbz p6 f6; have p7 := keep_cell hbz p6; have HB7 := Lib.hid (below_then' HB6.out hbz); have HSM7 := Lib.hid (HSM2.out.below hbz); clear he hbz)
              go_roundg (gk - 1)
              case measure => have h1 := HGK.out; have h2 := HLT.out; omega
              case rel =>
                refine ⟨i + 1, m2, by simp, by have h1 := HGK.out; have h2 := HLT.out; omega, ⟨HSM7.out, HVAL.out.symm, ?_⟩, p7, f7, HB7.out⟩
                have := HO.out
                unfold textOut at this
                split at this
                · rename_i hh; simpa using hh
                · cases this
            | err k =>
              go_wp2_with (go_at_call 58; refine (text_out _ (m2 : Int) _ HWS.out (HT.out.below HBW6.out) HLM2.out).mono ?_; rw [HO.out]; rintro e V7 ⟨he, hbz⟩; have he2 : e = .panicked (failChain k) := he; subst he2; have f7 := keep_free' hbz p6 f6; have p7 := keep_cell hbz p6; have HB7 := Lib.hid (below_then' HBW6.out hbz); clear he hbz)
              refine leaves_cons (f := 87) (args := #[.pointer (some ⟨w.heap.size, 0, none⟩)]) (by simp) (by simp [go_sem]) ?_
              refine (guard_panic ⟨w.heap.size, 0, none⟩ k (.int .i64 0) _ p7 f7).mono ?_
              rintro e u' w'' ⟨rfl, rfl, rfl⟩
              have e0 := set_same (.int .i64 k) (keep_cell ((Below.refl _ V7).alloc (Nat.le_refl _) (.cells #[.int .i64 k] 77)) p7)
              have hk : k = 3 ∧ ¬ m2 < 10 ^ 200 := by
                have := HO.out
                unfold textOut at this
                split at this
                · cases this
                · rename_i hh; cases this; exact ⟨rfl, by simpa using hh⟩
              obtain ⟨rfl, hbig⟩ := hk
              have hbig2 : ¬ (fromB b S.data.toList).natAbs < 10 ^ 200 := by
                have hle := bval_take_le HBB.out.1 D.data.toList (i + 1)
                rw [HVAL.out] at hle
                have hDl : Lib.trimPrefix S.data.toList [45] = D.data.toList := by rw [← HD.out]
                unfold fromB
                rw [hDl]
                split
                · rw [Int.natAbs_neg, Int.natAbs_natCast]; omega
                · rw [Int.natAbs_natCast]; omega
              have hto : textOut (fromB b S.data.toList) = .err 3 := if_neg hbig2
              simp [Leaves, settle, results, Tryz.results37, go_sem, e0]
              refine .inl ⟨HALL.out, ?_, (HB7.out.alloc HB7.out.size _).setCell (p := ⟨w.heap.size, 0, none⟩) (Nat.le_refl _) _⟩
              rw [hto]; rfl
          · have hi : i = D.size := by omega
            have HM : Hid (m = bval b D.data.toList) := by show _ = _; rw [HG.out.2.1, hi, List.take_of_length_le (by rw [Array.length_toList]; exact Nat.le_refl _)]
            have hDl : Lib.trimPrefix S.data.toList [45] = D.data.toList := by rw [← HD.out]
            have hneg2 : neg = decide (S.data.toList.head? = some 45) := by rw [← HNEG.out]; exact prefix_head _
            obtain ⟨z, hz⟩ : ∃ z, fromB b S.data.toList = z := ⟨_, rfl⟩
            have hzn : z.natAbs = m := by
              rw [← hz]; unfold fromB; rw [hDl, ← HM.out]
              split
              · rw [Int.natAbs_neg, Int.natAbs_natCast]
              · rw [Int.natAbs_natCast]
            have hzs : (neg && decide (0 < m)) = decide (z < 0) := by
              rw [hneg2, ← hz]; unfold fromB; rw [hDl, ← HM.out]
              by_cases hh : S.data.toList.head? = some 45
              · rw [if_pos hh, decide_eq_true hh, Bool.true_and, decide_eq_decide]; omega
              · rw [if_neg hh, decide_eq_false hh, Bool.false_and]; symm; rw [decide_eq_false_iff_not]; omega
            have HZ := Lib.hid hz
            have HZF : Hid (textOut z = .ok (.string ⟨(Lib.itoa z).toArray⟩)) := if_pos (by rw [hzn]; exact HG.out.2.2)
            have HLZ : Hid ((dg 1000000000 z.natAbs).length ≤ 1000000) := by show _ ≤ _; rw [hzn]; exact Nat.le_trans (len23 HG.out.2.2) (by decide)
            have HWZ : Hid (Wh wr (.agg #[.bool (neg && decide (0 < m)), .slice A8 n8 c8]) z) := ⟨_, by rw [hzs], by rw [hzn]; exact HG.out.1⟩
            have HBW8 : Hid (Below w.heap.size w wr) := below_then' HBW2.out HB.out
            clear hg hi hDl hneg2 hz hzn hzs
            go_wp2_with (first
              | (go_at_call 60; refine (made_c _ _ m _ HG.out.1).mono ?_; rintro e V7 ⟨rfl, hbz⟩; have f7 := keep_free' hbz p0 f0; have p7 := keep_cell hbz p0; have HWZ7 := Lib.hid (HWZ.out.below hbz); have HB7 := Lib.hid (below_then' HBW8.out hbz); obtain ⟨bz, hbzz⟩ : ∃ bz, (neg && decide (0 < m)) = bz := ⟨_, rfl⟩; rw [hbzz]; rw [hbzz] at HWZ7; clear hbz hbzz)
              | (go_at_call 58; refine (text_out _ z _ HWZ7.out (HT.out.below HB7.out) HLZ.out).mono ?_; rw [HZF.out]; rintro e V8 ⟨he, hbz⟩; have he2 : e = .returned (.string ⟨(Lib.itoa z).toArray⟩) := he; subst he2; have f8 := keep_free' hbz p7 f7; have p8 := keep_cell hbz p7; have HB8 := Lib.hid (below_then' HB7.out hbz); clear he hbz))
            refine leaves_cons (f := 87) (args := #[.pointer (some ⟨w.heap.size, 0, none⟩)]) (by simp) (by simp [go_sem]) ?_
            refine (guard_idle ⟨w.heap.size, 0, none⟩ _).mono ?_
            rintro e u' w'' ⟨rfl, rfl, rfl⟩
            have e0 := set_same (.int .i64 0) p8
            simp [Leaves, settle, results, Tryz.results37, go_sem, e0]
            refine .inl ⟨HALL.out, ?_, HB8.out.setCell (p := ⟨w.heap.size, 0, none⟩) (Nat.le_refl _) _⟩
            rw [HZ.out, HZF.out]; rfl

theorem trim_len (l : List UInt8) : (Lib.trimPrefix l [45]).length ≤ l.length := by
  by_cases h : l.head? = some 45
  · cases l with
    | nil => cases h
    | cons c r =>
      have hc : c = 45 := by simpa using h
      rw [hc, trim_minus]; simp
  · rw [trim_other h]; exact Nat.le_refl _

theorem numFromBase_c (S : ByteArray) (b : Nat) (hb : 2 ≤ b) (hb2 : b ≤ 36) (hS : S.size ≤ 1000) (w : World) (ht : Tabs w) :
    Calls Tryz.prog 37 #[.string S, .int .i64 (b : Int)] w fun e w' => (formB b S.data.toList ∧ FromP b S w e w') ∨ (¬ formB b S.data.toList ∧ FormErr w e w') := by
  obtain ⟨D, hD⟩ : ∃ D : ByteArray, ⟨(Lib.trimPrefix S.data.toList [45]).toArray⟩ = D := ⟨_, rfl⟩
  have hDl : Lib.trimPrefix S.data.toList [45] = D.data.toList := by rw [← hD]
  have hsz : D.size = D.data.toList.length := by rw [Array.length_toList]; rfl
  by_cases h0 : Lib.trimPrefix S.data.toList [45] = []
  · refine (fb_empty S b hb hb2 w h0).mono fun e w' h => .inr ⟨fun hf => hf.1 h0, h⟩
  · have hpos : 0 < D.size := by rw [hsz, ← hDl]; exact List.length_pos_iff.2 h0
    have hdl : D.size ≤ 1000 := by
      have h1 := trim_len S.data.toList
      rw [hDl, ← hsz] at h1
      have h2 : S.data.toList.length = S.size := by rw [Array.length_toList]; rfl
      omega
    have hhd : D.data.toList.head? = some (D[0]'hpos) := by
      have : 0 < D.data.toList.length := by omega
      rw [List.head?_eq_getElem?, List.getElem?_eq_getElem this]
      rfl
    have hls : S.toList = [48] ↔ S.data.toList = [48] := by rw [ByteArray.toList_eq]
    by_cases hc : ((D[0]'hpos).toNat : Int) = 48
    · have h48 : D[0]'hpos = 48 := UInt8.toNat_inj.1 (by have : (48 : UInt8).toNat = 48 := rfl; omega)
      by_cases hs : S.toList = [48]
      · refine (fb_digits S b hb hb2 w ht D hD hpos hdl (.inl ⟨by simpa using hc, by simp [hs]⟩)).mono ?_
        rintro e w' (⟨h1, h2⟩ | ⟨h1, h2⟩)
        · exact .inl ⟨⟨h0, fun h => h.2 (hls.1 hs), by rw [hDl]; exact h1⟩, h2⟩
        · exact .inr ⟨fun hf => h1 (by rw [← hDl]; exact hf.2.2), h2⟩
      · refine (fb_zero S b hb hb2 w D hD hpos hc hs).mono fun e w' h => .inr ⟨fun hf => hf.2.1 ⟨by rw [hDl, hhd, h48], fun e => hs (hls.2 e)⟩, h⟩
    · refine (fb_digits S b hb hb2 w ht D hD hpos hdl (.inr (by simpa using hc))).mono ?_
      rintro e w' (⟨h1, h2⟩ | ⟨h1, h2⟩)
      · refine .inl ⟨⟨h0, fun h => hc ?_, by rw [hDl]; exact h1⟩, h2⟩
        have h3 := h.1
        rw [hDl, hhd] at h3
        have h4 : D[0]'hpos = 48 := Option.some.inj h3
        rw [h4]; rfl
      · exact .inr ⟨fun hf => h1 (by rw [← hDl]; exact hf.2.2), h2⟩

end Go.Proofs.YtbjgpbdkofadiaaGreatDoor

namespace Go.Proofs.YtbjgpbdkofadiaaGreatDoor
set_option linter.unusedVariables false
set_option linter.unusedSimpArgs false
open Go.RowKit Go.Shelf Go.Proofs

/-- The text of an integer that fits, else none; the error. -/
def txt (z : Int) : ByteArray := if z.natAbs < 10 ^ 200 then ⟨(Lib.itoa z).toArray⟩ else ⟨#[]⟩
def ern (z : Int) : Int := if z.natAbs < 10 ^ 200 then 0 else 3
theorem textOut_res (z : Int) : (textOut z).res (.string ⟨#[]⟩) = .tuple #[.string (txt z), .int .i64 (ern z)] := by
  unfold textOut txt ern
  by_cases h : z.natAbs < 10 ^ 200
  · rw [if_pos h, if_pos h, if_pos h]; rfl
  · rw [if_neg h, if_neg h, if_neg h]; rfl
theorem ern_or (z : Int) : ern z = 0 ∨ ern z = 3 := by
  unfold ern; split
  · exact .inl rfl
  · exact .inr rfl
theorem num_of {z : Int} {s : ByteArray} {e : Int} (hs : txt z = s) (he : ern z = e) (h0 : e = 0) : NumL s.data.toList z := by
  have hf : z.natAbs < 10 ^ 200 := by
    by_cases h : z.natAbs < 10 ^ 200
    · exact h
    · rw [ern, if_neg h] at he; omega
  refine ⟨?_, hf⟩
  rw [← hs, txt, if_pos hf]
theorem num_txt {s : ByteArray} {z : Int} (h : NumL s.data.toList z) : txt z = s ∧ ern z = 0 := by
  refine ⟨?_, if_pos h.2⟩
  rw [txt, if_pos h.2, ← h.1]
theorem num_eq {s t : ByteArray} {x y : Int} (hs : NumL s.data.toList x) (ht : NumL t.data.toList y) : s = t ↔ x = y := by
  rw [← (num_txt hs).1, ← (num_txt ht).1]
  constructor
  · intro h
    have h1 := congrArg (fun b : ByteArray => b.data.toList) h
    simp only [txt, if_pos hs.2, if_pos ht.2] at h1
    exact itoa_inj h1
  · intro h; rw [h]
theorem num_zero : NumL [48] 0 := ⟨by rw [Lib.itoa, if_neg (by decide)]; exact decDigits_zero.symm, by decide⟩
theorem num_is_zero {s : ByteArray} {x : Int} (hs : NumL s.data.toList x) : (s.toList == [48]) = decide (x = 0) := by
  rw [ByteArray.toList_eq, Bool.eq_iff_iff, beq_iff_eq, decide_eq_true_iff]
  constructor
  · intro h; rw [h] at hs; exact itoa_inj (hs.1.symm.trans num_zero.1)
  · intro h; rw [h] at hs; rw [hs.1, ← num_zero.1]

theorem un_at {S : ByteArray} {f : Int → Out} {zv : Value} {w w' : World} {e : Ending} {x : Int} (h : Un S f zv w e w') (hx : NumL S.data.toList x) : e = .returned ((f x).res zv) ∧ Below w.heap.size w w' := by
  obtain ⟨h, hb⟩ := h
  rcases h with ⟨x', hx', rfl⟩ | ⟨hn, _⟩
  · rw [itoa_inj (hx.1.symm.trans hx'.1)]; exact ⟨rfl, hb⟩
  · exact absurd ⟨x, hx⟩ hn
theorem bi_at {S T : ByteArray} {f : Int → Int → Out} {zv : Value} {w w' : World} {e : Ending} {x y : Int} (h : Bi S T f zv w e w') (hx : NumL S.data.toList x) (hy : NumL T.data.toList y) : e = .returned ((f x y).res zv) ∧ Below w.heap.size w w' := by
  obtain ⟨h, hb⟩ := h
  rcases h with ⟨x', y', hx', hy', rfl⟩ | ⟨hn, _⟩
  · rw [itoa_inj (hx.1.symm.trans hx'.1), itoa_inj (hy.1.symm.trans hy'.1)]; exact ⟨rfl, hb⟩
  · exact absurd ⟨⟨x, hx⟩, y, hy⟩ hn

/-- A call answers with the text s and the error k. -/
def Ans (s : ByteArray) (k : Int) (w : World) (e : Ending) (w' : World) : Prop := e = .returned (.tuple #[.string s, .int .i64 k]) ∧ Below w.heap.size w w'
/-- A call answers with the int n and no error. -/
def AnsI (n : Int) (w : World) (e : Ending) (w' : World) : Prop := e = .returned (.tuple #[.int .i64 n, .int .i64 0]) ∧ Below w.heap.size w w'
theorem ans_mk {z : Int} {s : ByteArray} {k : Int} {w w' : World} {e : Ending} (h : e = .returned ((textOut z).res (.string ⟨#[]⟩)) ∧ Below w.heap.size w w') (hs : txt z = s) (hk : ern z = k) : Ans s k w e w' := by
  rw [textOut_res, hs, hk] at h; exact h

section
variable (S T : ByteArray) (x y : Int) (s : ByteArray) (k : Int) (w : World)
theorem law_add (hS : NumL S.data.toList x) (hT : NumL T.data.toList y) (hs : txt (x + y) = s) (hk : ern (x + y) = k) (ht : Tabs w) : Calls Tryz.prog 42 #[.string S, .string T] w (Ans s k w) :=
  (numAdd_c S T w ht).mono fun _ _ h => ans_mk (bi_at h hS hT) hs hk
theorem law_mul (hS : NumL S.data.toList x) (hT : NumL T.data.toList y) (hs : txt (x * y) = s) (hk : ern (x * y) = k) (ht : Tabs w) : Calls Tryz.prog 19 #[.string S, .string T] w (Ans s k w) :=
  (numMul_c S T w ht).mono fun _ _ h => ans_mk (bi_at h hS hT) hs hk
theorem law_sub (hS : NumL S.data.toList x) (hT : NumL T.data.toList y) (hs : txt (x + -y) = s) (hk : ern (x + -y) = k) (ht : Tabs w) : Calls Tryz.prog 44 #[.string S, .string T] w (Ans s k w) :=
  (numSub_c S T w ht).mono fun _ _ h => ans_mk (bi_at h hS hT) hs hk
theorem law_neg (hS : NumL S.data.toList x) (hs : txt (-x) = s) (hk : ern (-x) = k) (ht : Tabs w) : Calls Tryz.prog 43 #[.string S] w (Ans s k w) :=
  (neg_c S w ht).mono fun _ _ h => ans_mk (z := -x) (un_at (f := fun x => textOut (-x)) h hS) hs hk
theorem law_abs (hS : NumL S.data.toList x) (hs : txt (x.natAbs : Int) = s) (hk : ern (x.natAbs : Int) = k) (ht : Tabs w) : Calls Tryz.prog 49 #[.string S] w (Ans s k w) :=
  (abs_c S w ht).mono fun _ _ h => ans_mk (z := (x.natAbs : Int)) (un_at (f := fun x => textOut (x.natAbs : Int)) h hS) hs hk
theorem law_cmp (hS : NumL S.data.toList x) (hT : NumL T.data.toList y) (ht : Tabs w) : Calls Tryz.prog 45 #[.string S, .string T] w (AnsI (sgn (x + -y)) w) :=
  (numCmp_c S T w ht).mono fun _ _ h => bi_at h hS hT
theorem law_sign (hS : NumL S.data.toList x) (ht : Tabs w) : Calls Tryz.prog 48 #[.string S] w (AnsI (sgn x) w) :=
  (signx_c S w ht).mono fun _ _ h => un_at h hS
end

set_option maxHeartbeats 1000000 in
theorem same_c (s t : ByteArray) (i j : Int) (w : World) (h : s = t ∨ i ≠ 0 ∨ j ≠ 0) : Calls Tryz.prog 41 #[.string s, .int .i64 i, .string t, .int .i64 j] w fun e w' => e = .returned (.bool true) ∧ w = w' := by
  by_cases hi : i = 0
  · by_cases hj : j = 0
    · obtain rfl : s = t := by rcases h with h | h | h <;> first | exact h | exact absurd hi h | exact absurd hj h
      subst hi hj
      go_enter Tryz.func41, Tryz.ntmps41
      go_wp2
      go_ret
      exact ⟨rfl, rfl⟩
    · have hjb : (j == 0) = false := by simp [hj]
      subst hi
      clear h
      go_enter Tryz.func41, Tryz.ntmps41
      go_wp2
      go_ret
      exact ⟨rfl, rfl⟩
  · have hib : (i == 0) = false := by simp [hi]
    clear h
    go_enter Tryz.func41, Tryz.ntmps41
    go_wp2
    go_ret
    exact ⟨rfl, rfl⟩

set_option maxHeartbeats 1000000 in
theorem short_c (s : ByteArray) (w : World) : Calls Tryz.prog 17 #[.string s] w fun e w' => e = .returned (.bool (decide (s.size ≤ 300))) ∧ w = w' := by
  by_cases h : s.size ≤ 300
  · have hb : decide ((s.size : Int) ≤ 300) = true := by simp; omega
    rw [decide_eq_true h]
    go_enter Tryz.func17, Tryz.ntmps17
    go_wp2
    go_ret
    exact ⟨rfl, rfl⟩
  · have hb : decide ((s.size : Int) ≤ 300) = false := by simp; omega
    rw [decide_eq_false h]
    go_enter Tryz.func17, Tryz.ntmps17
    go_wp2
    go_ret
    exact ⟨rfl, rfl⟩

end Go.Proofs.YtbjgpbdkofadiaaGreatDoor

namespace Go.Proofs.YtbjgpbdkofadiaaGreatDoor
set_option linter.unusedVariables false
set_option linter.unusedSimpArgs false
open Go.RowKit Go.Shelf Go.Proofs

/-- What the laws ask of sanity. -/
def San : Prop := ∀ w : World, Tabs w → Calls Tryz.prog 18 #[] w fun e w' => e = .returned (.bool true) ∧ Below w.heap.size w w'

/-- b tells whether S is an integer's text. -/
def VB (b : Bool) (S : ByteArray) : Prop := b = true ↔ ∃ z, NumL S.data.toList z
def SB3 (b : Bool) (S : ByteArray) : Prop := decide (S.size ≤ 300) = b
/-- Valid, its answer known. -/
theorem valid_at (S : ByteArray) (b : Bool) (w : World) (h : VB b S) : Calls Tryz.prog 52 #[.string S] w fun e w' => e = .returned (.bool b) ∧ Below w.heap.size w w' := by
  refine (valid_c S w).mono ?_
  rintro e w' ⟨⟨b', rfl, hb'⟩, hb⟩
  have h' : b = true ↔ ∃ z, NumL S.data.toList z := h
  have : b' = b := by
    cases b <;> cases b' <;> simp_all
  rw [this]; exact ⟨rfl, hb⟩
theorem short_at (S : ByteArray) (b : Bool) (w : World) (h : SB3 b S) : Calls Tryz.prog 17 #[.string S] w fun e w' => e = .returned (.bool b) ∧ w = w' := by
  rw [show b = decide (S.size ≤ 300) from h.symm]; exact short_c S w

set_option maxRecDepth 100000 in
set_option maxHeartbeats 4000000 in
theorem integers_g (a b c : ByteArray) (sa sb sc va vb vc : Bool) (w : World) (h1 : SB3 sa a) (h2 : SB3 sb b) (h3 : SB3 sc c) (h4 : VB va a) (h5 : VB vb b) (h6 : VB vc c) :
    Calls Tryz.prog 40 #[.string a, .string b, .string c] w fun e w' => e = .returned (.bool (sa && sb && sc && va && vb && vc)) ∧ Below w.heap.size w w' := by
  have H1 := Lib.hid h1
  have H2 := Lib.hid h2
  have H3 := Lib.hid h3
  have H4 := Lib.hid h4
  have H5 := Lib.hid h5
  have H6 := Lib.hid h6
  have HB : Hid (Below w.heap.size w w) := Below.refl _ _
  clear h1 h2 h3 h4 h5 h6
  cases sa
  · go_enter Tryz.func40, Tryz.ntmps40
    go_wp2_with (first | (go_at_call 17; with_reducible refine (short_at a _ _ H1.out).mono ?_; rintro e W ⟨rfl, rfl⟩) | (go_at_call 17; with_reducible refine (short_at b _ _ H2.out).mono ?_; rintro e W ⟨rfl, rfl⟩) | (go_at_call 17; with_reducible refine (short_at c _ _ H3.out).mono ?_; rintro e W ⟨rfl, rfl⟩) | (go_at_call 52; with_reducible refine (valid_at a _ _ H4.out).mono ?_; rintro e W ⟨rfl, hbz⟩; have HB := Lib.hid (below_then' HB.out hbz); clear hbz) | (go_at_call 52; with_reducible refine (valid_at b _ _ H5.out).mono ?_; rintro e W ⟨rfl, hbz⟩; have HB := Lib.hid (below_then' HB.out hbz); clear hbz) | (go_at_call 52; with_reducible refine (valid_at c _ _ H6.out).mono ?_; rintro e W ⟨rfl, hbz⟩; have HB := Lib.hid (below_then' HB.out hbz); clear hbz))
    go_ret
    exact ⟨rfl, HB.out⟩
  · cases sb
    · go_enter Tryz.func40, Tryz.ntmps40
      go_wp2_with (first | (go_at_call 17; with_reducible refine (short_at a _ _ H1.out).mono ?_; rintro e W ⟨rfl, rfl⟩) | (go_at_call 17; with_reducible refine (short_at b _ _ H2.out).mono ?_; rintro e W ⟨rfl, rfl⟩) | (go_at_call 17; with_reducible refine (short_at c _ _ H3.out).mono ?_; rintro e W ⟨rfl, rfl⟩) | (go_at_call 52; with_reducible refine (valid_at a _ _ H4.out).mono ?_; rintro e W ⟨rfl, hbz⟩; have HB := Lib.hid (below_then' HB.out hbz); clear hbz) | (go_at_call 52; with_reducible refine (valid_at b _ _ H5.out).mono ?_; rintro e W ⟨rfl, hbz⟩; have HB := Lib.hid (below_then' HB.out hbz); clear hbz) | (go_at_call 52; with_reducible refine (valid_at c _ _ H6.out).mono ?_; rintro e W ⟨rfl, hbz⟩; have HB := Lib.hid (below_then' HB.out hbz); clear hbz))
      go_ret
      exact ⟨rfl, HB.out⟩
    · cases sc
      · go_enter Tryz.func40, Tryz.ntmps40
        go_wp2_with (first | (go_at_call 17; with_reducible refine (short_at a _ _ H1.out).mono ?_; rintro e W ⟨rfl, rfl⟩) | (go_at_call 17; with_reducible refine (short_at b _ _ H2.out).mono ?_; rintro e W ⟨rfl, rfl⟩) | (go_at_call 17; with_reducible refine (short_at c _ _ H3.out).mono ?_; rintro e W ⟨rfl, rfl⟩) | (go_at_call 52; with_reducible refine (valid_at a _ _ H4.out).mono ?_; rintro e W ⟨rfl, hbz⟩; have HB := Lib.hid (below_then' HB.out hbz); clear hbz) | (go_at_call 52; with_reducible refine (valid_at b _ _ H5.out).mono ?_; rintro e W ⟨rfl, hbz⟩; have HB := Lib.hid (below_then' HB.out hbz); clear hbz) | (go_at_call 52; with_reducible refine (valid_at c _ _ H6.out).mono ?_; rintro e W ⟨rfl, hbz⟩; have HB := Lib.hid (below_then' HB.out hbz); clear hbz))
        go_ret
        exact ⟨rfl, HB.out⟩
      · cases va
        · go_enter Tryz.func40, Tryz.ntmps40
          go_wp2_with (first | (go_at_call 17; with_reducible refine (short_at a _ _ H1.out).mono ?_; rintro e W ⟨rfl, rfl⟩) | (go_at_call 17; with_reducible refine (short_at b _ _ H2.out).mono ?_; rintro e W ⟨rfl, rfl⟩) | (go_at_call 17; with_reducible refine (short_at c _ _ H3.out).mono ?_; rintro e W ⟨rfl, rfl⟩) | (go_at_call 52; with_reducible refine (valid_at a _ _ H4.out).mono ?_; rintro e W ⟨rfl, hbz⟩; have HB := Lib.hid (below_then' HB.out hbz); clear hbz) | (go_at_call 52; with_reducible refine (valid_at b _ _ H5.out).mono ?_; rintro e W ⟨rfl, hbz⟩; have HB := Lib.hid (below_then' HB.out hbz); clear hbz) | (go_at_call 52; with_reducible refine (valid_at c _ _ H6.out).mono ?_; rintro e W ⟨rfl, hbz⟩; have HB := Lib.hid (below_then' HB.out hbz); clear hbz))
          go_ret
          exact ⟨rfl, HB.out⟩
        · cases vb
          · go_enter Tryz.func40, Tryz.ntmps40
            go_wp2_with (first | (go_at_call 17; with_reducible refine (short_at a _ _ H1.out).mono ?_; rintro e W ⟨rfl, rfl⟩) | (go_at_call 17; with_reducible refine (short_at b _ _ H2.out).mono ?_; rintro e W ⟨rfl, rfl⟩) | (go_at_call 17; with_reducible refine (short_at c _ _ H3.out).mono ?_; rintro e W ⟨rfl, rfl⟩) | (go_at_call 52; with_reducible refine (valid_at a _ _ H4.out).mono ?_; rintro e W ⟨rfl, hbz⟩; have HB := Lib.hid (below_then' HB.out hbz); clear hbz) | (go_at_call 52; with_reducible refine (valid_at b _ _ H5.out).mono ?_; rintro e W ⟨rfl, hbz⟩; have HB := Lib.hid (below_then' HB.out hbz); clear hbz) | (go_at_call 52; with_reducible refine (valid_at c _ _ H6.out).mono ?_; rintro e W ⟨rfl, hbz⟩; have HB := Lib.hid (below_then' HB.out hbz); clear hbz))
            go_ret
            exact ⟨rfl, HB.out⟩
          · cases vc
            · go_enter Tryz.func40, Tryz.ntmps40
              go_wp2_with (first | (go_at_call 17; with_reducible refine (short_at a _ _ H1.out).mono ?_; rintro e W ⟨rfl, rfl⟩) | (go_at_call 17; with_reducible refine (short_at b _ _ H2.out).mono ?_; rintro e W ⟨rfl, rfl⟩) | (go_at_call 17; with_reducible refine (short_at c _ _ H3.out).mono ?_; rintro e W ⟨rfl, rfl⟩) | (go_at_call 52; with_reducible refine (valid_at a _ _ H4.out).mono ?_; rintro e W ⟨rfl, hbz⟩; have HB := Lib.hid (below_then' HB.out hbz); clear hbz) | (go_at_call 52; with_reducible refine (valid_at b _ _ H5.out).mono ?_; rintro e W ⟨rfl, hbz⟩; have HB := Lib.hid (below_then' HB.out hbz); clear hbz) | (go_at_call 52; with_reducible refine (valid_at c _ _ H6.out).mono ?_; rintro e W ⟨rfl, hbz⟩; have HB := Lib.hid (below_then' HB.out hbz); clear hbz))
              go_ret
              exact ⟨rfl, HB.out⟩
            · go_enter Tryz.func40, Tryz.ntmps40
              go_wp2_with (first | (go_at_call 17; with_reducible refine (short_at a _ _ H1.out).mono ?_; rintro e W ⟨rfl, rfl⟩) | (go_at_call 17; with_reducible refine (short_at b _ _ H2.out).mono ?_; rintro e W ⟨rfl, rfl⟩) | (go_at_call 17; with_reducible refine (short_at c _ _ H3.out).mono ?_; rintro e W ⟨rfl, rfl⟩) | (go_at_call 52; with_reducible refine (valid_at a _ _ H4.out).mono ?_; rintro e W ⟨rfl, hbz⟩; have HB := Lib.hid (below_then' HB.out hbz); clear hbz) | (go_at_call 52; with_reducible refine (valid_at b _ _ H5.out).mono ?_; rintro e W ⟨rfl, hbz⟩; have HB := Lib.hid (below_then' HB.out hbz); clear hbz) | (go_at_call 52; with_reducible refine (valid_at c _ _ H6.out).mono ?_; rintro e W ⟨rfl, hbz⟩; have HB := Lib.hid (below_then' HB.out hbz); clear hbz))
              go_ret
              exact ⟨rfl, HB.out⟩

theorem integers_ok (a b c : ByteArray) (x y z : Int) (w : World) (ha : NumL a.data.toList x) (hb : NumL b.data.toList y) (hc : NumL c.data.toList z) :
    Calls Tryz.prog 40 #[.string a, .string b, .string c] w fun e w' => e = .returned (.bool true) ∧ Below w.heap.size w w' := by
  have sz : ∀ (s : ByteArray) (x : Int), NumL s.data.toList x → decide (s.size ≤ 300) = true := fun s x h => by
    have := numL_len h
    rw [Array.length_toList] at this
    have h2 : s.size ≤ 201 := this
    simp; omega
  exact integers_g a b c true true true true true true w (sz a x ha) (sz b y hb) (sz c z hc) ⟨fun _ => ⟨x, ha⟩, fun _ => rfl⟩ ⟨fun _ => ⟨y, hb⟩, fun _ => rfl⟩ ⟨fun _ => ⟨z, hc⟩, fun _ => rfl⟩

theorem integers_bad (a b c : ByteArray) (w : World) (h : ¬ ∃ x y z, NumL a.data.toList x ∧ NumL b.data.toList y ∧ NumL c.data.toList z) :
    Calls Tryz.prog 40 #[.string a, .string b, .string c] w fun e w' => e = .returned (.bool false) ∧ Below w.heap.size w w' := by
  have hb : ∀ p : Prop, ∃ v : Bool, v = true ↔ p := fun p => by
    by_cases hp : p
    · exact ⟨true, by simp [hp]⟩
    · exact ⟨false, by simp [hp]⟩
  obtain ⟨va, h4⟩ := hb (∃ z, NumL a.data.toList z)
  obtain ⟨vb, h5⟩ := hb (∃ z, NumL b.data.toList z)
  obtain ⟨vc, h6⟩ := hb (∃ z, NumL c.data.toList z)
  refine (integers_g a b c _ _ _ va vb vc w rfl rfl rfl h4 h5 h6).mono ?_
  rintro e w' ⟨rfl, hw⟩
  refine ⟨?_, hw⟩
  have : (va && vb && vc) = false := by
    rw [← Bool.not_eq_true]
    intro e
    simp only [Bool.and_eq_true] at e
    obtain ⟨⟨e1, e2⟩, e3⟩ := e
    obtain ⟨x, hx⟩ := h4.1 e1
    obtain ⟨y, hy⟩ := h5.1 e2
    obtain ⟨z, hz⟩ := h6.1 e3
    exact h ⟨x, y, z, hx, hy, hz⟩
  rw [Bool.and_assoc, Bool.and_assoc, ← Bool.and_assoc va, this, Bool.and_false]

end Go.Proofs.YtbjgpbdkofadiaaGreatDoor

