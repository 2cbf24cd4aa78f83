/- Valid, read. -/
import Derived.Test.YtbjgpbdkofadiaaGreatDoorDecimal
import Derived.Test.YtbjgpbdkofadiaaGreatDoorWhole3
namespace Go.Proofs.YtbjgpbdkofadiaaGreatDoor
set_option linter.unusedVariables false
set_option linter.unusedSimpArgs false
open Go.RowKit Go.Shelf Go.Proofs

/-- What ContainsFunc asks of each rune. -/
def noDig (r : Nat) : Bool := decide (r < 48) || decide (57 < r)

theorem idx_from (S : ByteArray) : ∀ (f pos : Nat), S.size - pos ≤ f → (0 ≤ Lib.idxFuncFrom noDig true S f pos ↔ ∃ j, ∃ h : j < S.size, pos ≤ j ∧ ¬ isDig S[j])
  | 0, pos, hf => by
    constructor
    · intro h; simp [Lib.idxFuncFrom] at h
    · rintro ⟨j, h, h1, _⟩; omega
  | f + 1, pos, hf => by
    by_cases hp : pos < S.size
    · rw [Lib.idxFuncFrom, if_pos hp]
      by_cases hd : isDig S[pos]
      · have ha : (S[pos]'hp).toNat < 128 := by have := hd.2; omega
        have hdec : Utf8.decode S pos = ((S[pos]'hp).toNat, 1) := by
          simp only [Utf8.decode, get_at S pos hp, ha, if_true]
        rw [hdec]
        have h1 := hd.1
        have h2 := hd.2
        have hn : ¬ noDig (S[pos]'hp).toNat = true := by simp only [noDig, Bool.or_eq_true, decide_eq_true_eq]; omega
        rw [if_neg hn, idx_from S f (pos + 1) (by omega)]
        constructor
        · rintro ⟨j, h, h3, h4⟩; exact ⟨j, h, by omega, h4⟩
        · rintro ⟨j, h, h3, h4⟩
          refine ⟨j, h, ?_, h4⟩
          rcases Nat.eq_or_lt_of_le h3 with e | e
          · subst e; exact absurd hd h4
          · exact e
      · have hy : noDig (Utf8.decode S pos).1 = true := by
          simp only [noDig, Bool.or_eq_true, decide_eq_true_eq]
          rcases Nat.lt_or_ge (S[pos]'hp).toNat 128 with ha | ha
          · have hdec : Utf8.decode S pos = ((S[pos]'hp).toNat, 1) := by
              simp only [Utf8.decode, get_at S pos hp, ha, if_true]
            rw [hdec]
            have : ¬ (48 ≤ (S[pos]'hp).toNat ∧ (S[pos]'hp).toNat ≤ 57) := hd
            simp only []
            omega
          · have := (decode_high S pos hp ha).1
            omega
        rw [if_pos hy]
        exact ⟨fun _ => ⟨pos, hp, Nat.le_refl _, hd⟩, fun _ => Int.natCast_nonneg _⟩
    · rw [Lib.idxFuncFrom_end _ _ _ _ _ hp]
      constructor
      · intro h; omega
      · rintro ⟨j, h, h1, _⟩; omega

theorem idx_digits (S : ByteArray) : 0 ≤ Lib.idxFunc noDig true S ↔ ¬ ∀ b ∈ S.data.toList, isDig b := by
  rw [Lib.idxFunc, idx_from S S.size 0 (by omega)]
  constructor
  · rintro ⟨j, h, _, hd⟩ hall
    exact hd (hall _ (Array.getElem_mem_toList (xs := S.data) (i := j) h))
  · intro h
    simp only [Classical.not_forall] at h
    obtain ⟨b, hb, hd⟩ := h
    obtain ⟨j, hj, e⟩ := List.getElem_of_mem hb
    refine ⟨j, by simpa using hj, Nat.zero_le _, ?_⟩
    have : S[j]'(by simpa using hj) = b := by rw [← e]; rfl
    rw [this]; exact hd

set_option maxHeartbeats 1000000 in
theorem noDig_c (x : Nat) (hx : x ≤ 1114111) (w : World) : Calls Tryz.prog 106 #[encR x] w fun e w' => e = .returned (.bool (noDig x)) ∧ w' = w := by
  have key : (decide ((x : Int) < 48) || decide (57 < (x : Int))) = noDig x := by
    unfold noDig
    congr 1 <;> (rw [decide_eq_decide]; omega)
  have HK := Lib.hid key
  clear key
  by_cases h1 : x < 48
  · have HN : Hid (noDig x = true) := by show noDig x = true; simp [noDig, h1]
    go_enter Tryz.func106, Tryz.ntmps106
    go_wp2
    go_ret
    exact ⟨by rw [HN.out]; rfl, rfl⟩
  · go_enter Tryz.func106, Tryz.ntmps106
    go_wp2
    go_ret
    exact ⟨by rw [← HK.out]; rfl, rfl⟩

/-! ### The integers' texts -/
theorem decDigits_dig (u : Nat) : ∀ b ∈ Lib.decDigits u, isDig b := by
  induction u using Nat.strongRecOn with
  | _ u ih =>
    have key : ∀ d : Nat, d < 10 → isDig (UInt8.ofNat (48 + d)) := fun d hd => by
      unfold isDig
      rw [UInt8.toNat_ofNat']
      omega
    intro b hb
    rw [Lib.decDigits] at hb
    split at hb
    · rename_i h
      rw [List.mem_singleton] at hb
      subst hb
      exact key u h
    · rename_i h
      rcases List.mem_append.1 hb with h1 | h1
      · exact ih (u / 10) (by omega) b h1
      · rw [List.mem_singleton] at h1
        subst h1
        exact key (u % 10) (Nat.mod_lt _ (by decide))

theorem decVal_decDigits (u : Nat) : decVal (Lib.decDigits u) = u := by
  induction u using Nat.strongRecOn with
  | _ u ih =>
    have key : ∀ d : Nat, d < 10 → decVal [UInt8.ofNat (48 + d)] = d := fun d hd => by
      simp only [decVal, List.foldl_cons, List.foldl_nil]
      rw [UInt8.toNat_ofNat']
      omega
    rw [Lib.decDigits]
    split
    · rename_i h; exact key u h
    · rename_i h
      rw [decVal_append, ih (u / 10) (by omega), key _ (Nat.mod_lt _ (by decide))]
      simp
      omega

theorem decDigits_ne (u : Nat) : Lib.decDigits u ≠ [] := by
  intro e
  have := Lib.decDigits_length u
  rw [e] at this
  have := Lib.nDigits_pos u
  simp at *
  omega

theorem head_append {l : List UInt8} (m : List UInt8) (h : l ≠ []) : (l ++ m).head? = l.head? := by
  cases l with
  | nil => exact absurd rfl h
  | cons a l => rfl

theorem decDigits_head (u : Nat) (hu : 0 < u) : (Lib.decDigits u).head? ≠ some 48 := by
  induction u using Nat.strongRecOn with
  | _ u ih =>
    rw [Lib.decDigits]
    split
    · rename_i h
      simp only [List.head?_cons, ne_eq, Option.some.injEq]
      intro e
      have := congrArg UInt8.toNat e
      rw [UInt8.toNat_ofNat'] at this
      simp at this
      omega
    · rename_i h
      have := ih (u / 10) (by omega) (by omega)
      have hne := decDigits_ne (u / 10)
      rwa [head_append _ hne]

theorem decDigits_zero : Lib.decDigits 0 = [48] := by rw [Lib.decDigits_one (by decide)]; rfl

theorem decVal_pos : ∀ {d : List UInt8}, (∀ b ∈ d, isDig b) → d ≠ [] → d.head? ≠ some 48 → 0 < decVal d
  | [], _, h, _ => absurd rfl h
  | b :: d, hd, _, hh => by
    have hb := hd b (List.mem_cons_self ..)
    have h1 := hb.1
    have hne : b.toNat ≠ 48 := fun e => hh (by simp; exact UInt8.toNat_inj.1 e)
    rw [show b :: d = [b] ++ d from rfl, decVal_append]
    have e : decVal [b] = b.toNat - 48 := by simp [decVal]
    have : 1 ≤ 10 ^ d.length := Nat.one_le_pow _ _ (by decide)
    have h2 : 1 * 1 ≤ decVal [b] * 10 ^ d.length := Nat.mul_le_mul (by omega) this
    omega

theorem dec_canon : ∀ (n : Nat) (d : List UInt8), d.length = n + 1 → (∀ b ∈ d, isDig b) → (d = [48] ∨ d.head? ≠ some 48) → Lib.decDigits (decVal d) = d := by
  intro n
  induction n with
  | zero =>
    intro d hl hd _
    match d, hl with
    | [b], _ =>
      have hb := hd b (List.mem_cons_self ..)
      have h1 := hb.1
      have h2 := hb.2
      have e : decVal [b] = b.toNat - 48 := by simp [decVal]
      rw [e, Lib.decDigits_one (by omega), show 48 + (b.toNat - 48) = b.toNat by omega, UInt8.ofNat_toNat]
  | succ n ih =>
    intro d hl hd hh
    have hne : d ≠ [] := by intro e; rw [e] at hl; simp at hl
    obtain ⟨d', b, rfl⟩ : ∃ d' b, d = d' ++ [b] := ⟨d.dropLast, d.getLast hne, (List.dropLast_concat_getLast hne).symm⟩
    have hl' : d'.length = n + 1 := by simpa using hl
    have hne' : d' ≠ [] := by intro e; rw [e] at hl'; simp at hl'
    have hb := hd b (by simp)
    have h1 := hb.1
    have h2 := hb.2
    have hd' : ∀ c ∈ d', isDig c := fun c hc => hd c (List.mem_append_left _ hc)
    have hh' : d'.head? ≠ some 48 := by
      rcases hh with hh | hh
      · have := congrArg List.length hh; simp at this; exact absurd this (by intro e; exact hne' e)
      · rwa [head_append _ hne'] at hh
    have hp := decVal_pos hd' hne' hh'
    have e : decVal [b] = b.toNat - 48 := by simp [decVal]
    have ev : decVal (d' ++ [b]) = decVal d' * 10 + (b.toNat - 48) := by rw [decVal_append, e]; simp
    rw [ev, Lib.decDigits, dif_neg (by omega), show (decVal d' * 10 + (b.toNat - 48)) / 10 = decVal d' by omega, show (decVal d' * 10 + (b.toNat - 48)) % 10 = b.toNat - 48 by omega, ih d' hl' hd' (.inr hh'), show 48 + (b.toNat - 48) = b.toNat by omega, UInt8.ofNat_toNat]

/-- l is the text of the integer z, of at most 200 digits. -/
def NumL (l : List UInt8) (z : Int) : Prop := l = Lib.itoa z ∧ z.natAbs < 10 ^ 200

theorem itoa_inj {x y : Int} (h : Lib.itoa x = Lib.itoa y) : x = y := by
  have key : ∀ u v : Nat, Lib.decDigits u = 45 :: Lib.decDigits v → False := fun u v e => by
    have := decDigits_dig u 45 (by rw [e]; simp)
    have h2 := this.1
    simp at h2
  unfold Lib.itoa at h
  split at h <;> split at h
  · have := congrArg decVal (List.cons.inj h).2
    rw [decVal_decDigits, decVal_decDigits] at this; omega
  · exact (key _ _ h.symm).elim
  · exact (key _ _ h).elim
  · have := congrArg decVal h
    rw [decVal_decDigits, decVal_decDigits] at this; omega


/-- What Valid looks at. -/
def validD (l d : List UInt8) : Prop := d ≠ [] ∧ d.length ≤ 200 ∧ ¬ (d.head? = some 48 ∧ l ≠ [48]) ∧ ∀ b ∈ d, isDig b

theorem trim_minus (r : List UInt8) : Lib.trimPrefix (45 :: r) [45] = r := by simp [Lib.trimPrefix, Lib.hasPrefix]
theorem trim_other {l : List UInt8} (h : l.head? ≠ some 45) : Lib.trimPrefix l [45] = l := by
  unfold Lib.trimPrefix Lib.hasPrefix
  rw [if_neg]
  intro e
  cases l with
  | nil => simp at e
  | cons a l =>
    simp at e
    exact h (by simp [e])

theorem len200 (u : Nat) : (Lib.decDigits u).length ≤ 200 ↔ u < 10 ^ 200 := by rw [Lib.decDigits_length]; exact nDigits_le (by decide)

theorem valid_iff (l : List UInt8) : validD l (Lib.trimPrefix l [45]) ↔ ∃ z, NumL l z := by
  constructor
  · rintro ⟨h1, h2, h3, h4⟩
    have hcan : ∀ d, Lib.trimPrefix l [45] = d → (d = [48] ∨ d.head? ≠ some 48) → Lib.decDigits (decVal d) = d ∧ decVal d < 10 ^ 200 := by
      intro d e hh
      rw [e] at h1 h2 h4
      have hlen : 0 < d.length := List.length_pos_iff.2 h1
      have := dec_canon (d.length - 1) d (by omega) h4 hh
      exact ⟨this, (len200 _).1 (by rw [this]; exact h2)⟩
    by_cases hm : l.head? = some 45
    · obtain ⟨r, rfl⟩ : ∃ r, l = 45 :: r := by
        cases l with
        | nil => simp at hm
        | cons a l => simp at hm; exact ⟨l, by rw [hm]⟩
      rw [trim_minus] at h1 h2 h3 h4 hcan
      have h48 : r.head? ≠ some 48 := fun e => h3 ⟨e, by simp⟩
      obtain ⟨c1, c2⟩ := hcan r rfl (.inr h48)
      have hp := decVal_pos h4 h1 h48
      refine ⟨-(decVal r : Int), ?_, by simpa using c2⟩
      rw [Lib.itoa, if_pos (by omega), show (-(decVal r : Int)).natAbs = decVal r by omega, c1]
    · rw [trim_other hm] at h1 h2 h3 h4 hcan
      have hh : l = [48] ∨ l.head? ≠ some 48 := by
        by_cases e : l = [48]
        · exact .inl e
        · exact .inr fun k => h3 ⟨k, e⟩
      obtain ⟨c1, c2⟩ := hcan l rfl hh
      refine ⟨(decVal l : Int), ?_, by simpa using c2⟩
      rw [Lib.itoa, if_neg (by omega), Int.toNat_natCast, c1]
  · rintro ⟨z, rfl, hz⟩
    by_cases hn : z < 0
    · rw [Lib.itoa, if_pos hn, trim_minus]
      refine ⟨decDigits_ne _, (len200 _).2 hz, fun h => decDigits_head _ (by omega) h.1, decDigits_dig _⟩
    · have hz' : z.toNat < 10 ^ 200 := by omega
      have hh : (Lib.decDigits z.toNat).head? ≠ some 45 := fun e => by
        have := decDigits_dig z.toNat 45 (List.mem_of_mem_head? e)
        have := this.1
        simp at this
      rw [Lib.itoa, if_neg hn, trim_other hh]
      refine ⟨decDigits_ne _, (len200 _).2 hz', fun h => ?_, decDigits_dig _⟩
      rcases Nat.eq_zero_or_pos z.toNat with h0 | h0
      · exact h.2 (by rw [h0, decDigits_zero])
      · exact decDigits_head _ h0 h.1

set_option maxHeartbeats 2000000 in
theorem valid_c (S : ByteArray) (w : World) : Calls Tryz.prog 52 #[.string S] w fun e w' => (∃ b, e = .returned (.bool b) ∧ (b = true ↔ ∃ z, NumL S.data.toList z)) ∧ Below w.heap.size w w' := by
  obtain ⟨D, hD⟩ : ∃ D : ByteArray, ⟨(Lib.trimPrefix S.data.toList [45]).toArray⟩ = D := ⟨_, rfl⟩
  have hDl : D.data.toList = Lib.trimPrefix S.data.toList [45] := by rw [← hD]
  have hV := valid_iff S.data.toList
  rw [← hDl] at hV
  have hsz : D.size = D.data.toList.length := by rw [Array.length_toList]; rfl
  have hla : D.toList = [] ↔ D.data.toList = [] := by rw [ByteArray.toList_eq]
  have hls : S.toList = [48] ↔ S.data.toList = [48] := by rw [ByteArray.toList_eq]
  have hid := idx_digits D
  unfold validD at hV
  have HD := Lib.hid hD
  clear hD hDl
  by_cases ha : D.toList = []
  · have hno : ¬ ∃ z, NumL S.data.toList z := fun h => (hV.2 h).1 (hla.1 ha)
    have HNO := Lib.hid hno
    clear hno hV hla hls hid hsz
    go_enter Tryz.func52, Tryz.ntmps52
    go_wp2_with (first | (go_at_call 104; refine (Tryz.strings_TrimPrefix S _ _).mono ?_; rintro e w' ⟨rfl, rfl⟩; rw [show (ByteArray.mk #[45]).data.toList = [45] from rfl, HD.out]) | (go_at_call 105; refine (Tryz.strings_ContainsFunc_runes 106 #[] (enters_of Tryz.func106 (by kernel_rfl) rfl) noDig D _ (fun W x hx hb => (noDig_c x hx W).mono (by rintro e w' ⟨rfl, rfl⟩; exact ⟨rfl, 0, rfl⟩))).mono ?_; rintro e w' ⟨rfl, hb⟩; have HBL := Lib.hid hb; clear hb))
    go_ret
    exact ⟨⟨_, rfl, ⟨fun h => by simp at h, fun h => absurd h HNO.out⟩⟩, (by repeat (first | exact Below.refl _ _ | exact HB.out | (refine Below.alloc ?_ (by first | (simp; done) | (simp; omega)) _) | (refine Below.setCell ?_ (by first | (simp; done) | (simp; omega)) _) | refine Below.drew ?_ | refine below_drewN ?_ _))⟩
  · have hne : D.data.toList ≠ [] := fun h => ha (hla.2 h)
    have hpos : 0 < D.size := by rw [hsz]; exact List.length_pos_iff.2 hne
    by_cases hb : (200 : Int) < (D.size : Int)
    · have hno : ¬ ∃ z, NumL S.data.toList z := fun h => by have := (hV.2 h).2.1; omega
      have HNO := Lib.hid hno
      clear hno hV hla hls hid hsz hne
      go_enter Tryz.func52, Tryz.ntmps52
      go_wp2_with (first | (go_at_call 104; refine (Tryz.strings_TrimPrefix S _ _).mono ?_; rintro e w' ⟨rfl, rfl⟩; rw [show (ByteArray.mk #[45]).data.toList = [45] from rfl, HD.out]) | (go_at_call 105; refine (Tryz.strings_ContainsFunc_runes 106 #[] (enters_of Tryz.func106 (by kernel_rfl) rfl) noDig D _ (fun W x hx hb => (noDig_c x hx W).mono (by rintro e w' ⟨rfl, rfl⟩; exact ⟨rfl, 0, rfl⟩))).mono ?_; rintro e w' ⟨rfl, hb⟩; have HBL := Lib.hid hb; clear hb))
      go_ret
      exact ⟨⟨_, rfl, ⟨fun h => by simp at h, fun h => absurd h HNO.out⟩⟩, (by repeat (first | exact Below.refl _ _ | exact HB.out | (refine Below.alloc ?_ (by first | (simp; done) | (simp; omega)) _) | (refine Below.setCell ?_ (by first | (simp; done) | (simp; omega)) _) | refine Below.drew ?_ | refine below_drewN ?_ _))⟩
    · have hae : D.toList.isEmpty = false := by simpa using ha
      have hbd : decide ((200 : Int) < (D.size : Int)) = false := decide_eq_false hb
      have hhd : D.data.toList.head? = some (D[0]'hpos) := by
        have : 0 < D.data.toList.length := by omega
        rw [List.head?_eq_getElem?, List.getElem?_eq_getElem this]
        rfl
      by_cases hc : ((D[0]'hpos).toNat : Int) = 48
      · have h48n : (D[0]'hpos).toNat = 48 := by omega
        have h48 : D[0]'hpos = 48 := UInt8.toNat_inj.1 h48n
        by_cases hs : S.toList = [48]
        · have hsb : (S.toList == [48]) = true := by simp [hs]
          have hyes : (¬ 0 ≤ Lib.idxFunc noDig true D) ↔ ∃ z, NumL S.data.toList z := by
            rw [← hV, hid, Classical.not_not]
            exact ⟨fun h => ⟨hne, by omega, fun k => k.2 (hls.1 hs), h⟩, fun h => h.2.2.2⟩
          have HY := Lib.hid hyes
          clear hyes hV hla hls hid hsz hne hhd h48
          go_enter Tryz.func52, Tryz.ntmps52
          go_wp2_with (first | (go_at_call 104; refine (Tryz.strings_TrimPrefix S _ _).mono ?_; rintro e w' ⟨rfl, rfl⟩; rw [show (ByteArray.mk #[45]).data.toList = [45] from rfl, HD.out]) | (go_at_call 105; refine (Tryz.strings_ContainsFunc_runes 106 #[] (enters_of Tryz.func106 (by kernel_rfl) rfl) noDig D _ (fun W x hx hb => (noDig_c x hx W).mono (by rintro e w' ⟨rfl, rfl⟩; exact ⟨rfl, 0, rfl⟩))).mono ?_; rintro e w' ⟨rfl, hb⟩; have HBL := Lib.hid hb; clear hb))
          go_ret
          exact ⟨⟨_, rfl, by rw [← HY.out]; simp⟩, HBL.out⟩
        · have hsb : (S.toList == [48]) = false := by simp [hs]
          have hno : ¬ ∃ z, NumL S.data.toList z := fun h => (hV.2 h).2.2.1 ⟨by rw [hhd, h48], fun k => hs (hls.2 k)⟩
          have HNO := Lib.hid hno
          clear hno hV hla hls hid hsz hne hhd h48
          go_enter Tryz.func52, Tryz.ntmps52
          go_wp2_with (first | (go_at_call 104; refine (Tryz.strings_TrimPrefix S _ _).mono ?_; rintro e w' ⟨rfl, rfl⟩; rw [show (ByteArray.mk #[45]).data.toList = [45] from rfl, HD.out]) | (go_at_call 105; refine (Tryz.strings_ContainsFunc_runes 106 #[] (enters_of Tryz.func106 (by kernel_rfl) rfl) noDig D _ (fun W x hx hb => (noDig_c x hx W).mono (by rintro e w' ⟨rfl, rfl⟩; exact ⟨rfl, 0, rfl⟩))).mono ?_; rintro e w' ⟨rfl, hb⟩; have HBL := Lib.hid hb; clear hb))
          go_ret
          exact ⟨⟨_, rfl, ⟨fun h => by simp at h, fun h => absurd h HNO.out⟩⟩, (by repeat (first | exact Below.refl _ _ | exact HB.out | (refine Below.alloc ?_ (by first | (simp; done) | (simp; omega)) _) | (refine Below.setCell ?_ (by first | (simp; done) | (simp; omega)) _) | refine Below.drew ?_ | refine below_drewN ?_ _))⟩
      · have hcb : (((D[0]'hpos).toNat : Int) == 48) = false := by simpa using hc
        have hyes : (¬ 0 ≤ Lib.idxFunc noDig true D) ↔ ∃ z, NumL S.data.toList z := by
          rw [← hV, hid, Classical.not_not]
          refine ⟨fun h => ⟨hne, by omega, fun k => ?_, h⟩, fun h => h.2.2.2⟩
          rw [hhd] at k
          have := congrArg UInt8.toNat (Option.some.inj k.1)
          simp at this
          omega
        have HY := Lib.hid hyes
        clear hyes hV hla hls hid hsz hne hhd
        go_enter Tryz.func52, Tryz.ntmps52
        go_wp2_with (first | (go_at_call 104; refine (Tryz.strings_TrimPrefix S _ _).mono ?_; rintro e w' ⟨rfl, rfl⟩; rw [show (ByteArray.mk #[45]).data.toList = [45] from rfl, HD.out]) | (go_at_call 105; refine (Tryz.strings_ContainsFunc_runes 106 #[] (enters_of Tryz.func106 (by kernel_rfl) rfl) noDig D _ (fun W x hx hb => (noDig_c x hx W).mono (by rintro e w' ⟨rfl, rfl⟩; exact ⟨rfl, 0, rfl⟩))).mono ?_; rintro e w' ⟨rfl, hb⟩; have HBL := Lib.hid hb; clear hb))
        go_ret
        exact ⟨⟨_, rfl, by rw [← HY.out]; simp⟩, HBL.out⟩

end Go.Proofs.YtbjgpbdkofadiaaGreatDoor
