/- Texts of this claim, merged: R3, Print, Text. -/
import Derived.Test.YtekbfommnmikbaaGreatDoorU5
import Derived.Recover
import Derived.Defers
import Derived.RegionDies
import Derived.BigQuiet
import Derived.Lib.ItoaLen
import Derived.Deep.QuietTactic
/- Integers read; exported functions of package number. -/
namespace Go.Proofs.YtekbfommnmikbaaGreatDoor
set_option linter.unusedVariables false
set_option linter.unusedSimpArgs false
open Go.RowKit Go.Shelf Go.Proofs
attribute [local go_sem] max2_int min2_int max_two min_two

/-- A digit's sign. -/
def isDig (b : UInt8) : Prop := 48 ≤ b.toNat ∧ b.toNat ≤ 57
/-- The number that decimal digits say. -/
def decVal : List UInt8 → Nat := List.foldl (fun acc b => 10 * acc + (b.toNat - 48)) 0

theorem decVal_append (l m : List UInt8) : decVal (l ++ m) = decVal l * 10 ^ m.length + decVal m := by
  have key : ∀ (m : List UInt8) (a : Nat), List.foldl (fun acc (b : UInt8) => 10 * acc + (b.toNat - 48)) a m = a * 10 ^ m.length + List.foldl (fun acc (b : UInt8) => 10 * acc + (b.toNat - 48)) 0 m := by
    intro m
    induction m with
    | nil => intro a; simp
    | cons b m ih =>
      intro a
      simp only [List.foldl_cons, List.length_cons]
      rw [ih (10 * a + (b.toNat - 48)), ih (10 * 0 + (b.toNat - 48)), Nat.pow_succ]
      grind
  unfold decVal
  rw [List.foldl_append, key m]

theorem decVal_lt : ∀ {l : List UInt8}, (∀ b ∈ l, isDig b) → decVal l < 10 ^ l.length
  | [], _ => by simp [decVal]
  | b :: l, h => by
    have ih := decVal_lt (l := l) fun c hc => h c (List.mem_cons_of_mem _ hc)
    have hb := (h b (List.mem_cons_self ..)).2
    rw [show b :: l = [b] ++ l from rfl, decVal_append, List.length_append, Nat.pow_add]
    have e : decVal [b] = b.toNat - 48 := by simp [decVal]
    have h2 : decVal [b] * 10 ^ l.length ≤ 9 * 10 ^ l.length := Nat.mul_le_mul_right _ (by omega)
    simp only [List.length_singleton, Nat.pow_one]
    omega

theorem parse_digits : ∀ (l : List UInt8) (acc : Nat), (∀ b ∈ l, isDig b) → (acc + 1) * 10 ^ l.length ≤ 1000000000000000000 → Lib.parseUint10 acc l = .ok (List.foldl (fun acc (b : UInt8) => 10 * acc + (b.toNat - 48)) acc l)
  | [], acc, _, _ => rfl
  | b :: l, acc, h, hb => by
    have hd := h b (List.mem_cons_self ..)
    rw [List.length_cons, Nat.pow_succ] at hb
    have h1 : 1 ≤ 10 ^ l.length := Nat.one_le_pow _ _ (by decide)
    have h3 : (acc + 1) * (10 ^ l.length * 10) = ((acc + 1) * 10) * 10 ^ l.length := by rw [Nat.mul_comm (10 ^ l.length) 10, ← Nat.mul_assoc]
    have h4 : ((acc + 1) * 10) * 1 ≤ ((acc + 1) * 10) * 10 ^ l.length := Nat.mul_le_mul_left _ h1
    have h5 : (acc * 10 + (b.toNat - 48) + 1) * 10 ^ l.length ≤ ((acc + 1) * 10) * 10 ^ l.length := Nat.mul_le_mul_right _ (by have := hd.2; omega)
    have hd1 := hd.1
    have hd2 := hd.2
    rw [Lib.parseUint10, if_pos (show 48 ≤ b.toNat ∧ b.toNat ≤ 57 from hd), if_neg (by omega), if_neg (by omega), parse_digits l _ (fun c hc => h c (List.mem_cons_of_mem _ hc)) (by omega), List.foldl_cons, Nat.mul_comm acc 10]

theorem atoi_digits {l : List UInt8} (h : ∀ b ∈ l, isDig b) (h0 : l ≠ []) (hl : l.length ≤ 9) : Lib.atoiAll l = .ok (decVal l : Int) := by
  cases l with
  | nil => exact absurd rfl h0
  | cons b l =>
    have hd := h b (List.mem_cons_self ..)
    have hd1 := hd.1
    have hd2 := hd.2
    have h9 : (0 + 1) * 10 ^ (b :: l).length ≤ 1000000000000000000 := by
      have : 10 ^ (b :: l).length ≤ 10 ^ 9 := Nat.pow_le_pow_right (by decide) hl
      omega
    have hlt := decVal_lt h
    have hlt2 : 10 ^ (b :: l).length ≤ 10 ^ 9 := Nat.pow_le_pow_right (by decide) hl
    have e : Lib.parseMag (b :: l) = .ok (decVal (b :: l)) := by
      rw [Lib.parseMag, if_neg (by simp)]
      exact parse_digits _ _ h h9
    simp only [Lib.atoiAll]
    rw [if_neg (by omega), e]
    simp only []
    rw [if_neg (by omega), if_neg (by omega), if_neg (by omega)]

/-- One part more. -/
theorem dec_step {l : List UInt8} {r k : Nat} {xs : List Int} {m : Nat} (hk : k = r - 9) (hr : r ≤ l.length) (h : val 1000000000 xs + (1000000000 : Int) ^ xs.length * (decVal (l.take r) : Int) = (m : Int)) :
    val 1000000000 (xs ++ [(decVal ((l.take r).drop k) : Int)]) + (1000000000 : Int) ^ (xs ++ [(decVal ((l.take r).drop k) : Int)]).length * (decVal (l.take k) : Int) = (m : Int) := by
  have e0 : l.take r = l.take k ++ (l.take r).drop k := by
    have := (List.take_append_drop k (l.take r)).symm
    rwa [List.take_take, Nat.min_eq_left (by omega)] at this
  have e1 : decVal (l.take r) = decVal (l.take k) * 10 ^ (r - k) + decVal ((l.take r).drop k) := by
    conv => lhs; rw [e0]
    rw [decVal_append, List.length_drop, List.length_take, Nat.min_eq_left hr]
  have e2 : decVal (l.take r) = decVal (l.take k) * 1000000000 + decVal ((l.take r).drop k) := by
    rcases Nat.lt_or_ge r 9 with h9 | h9
    · obtain rfl : k = 0 := by omega
      rw [e1]; simp [decVal]
    · rw [e1, show r - k = 9 by omega]
  rw [e2] at h
  rw [val_append, ← h, List.length_append, List.length_singleton, Int.pow_succ]
  simp only [val, Int.natCast_add, Int.natCast_mul]
  generalize ((decVal (l.take k) : Nat) : Int) = A
  generalize ((decVal ((l.take r).drop k) : Nat) : Int) = B
  generalize (1000000000 : Int) ^ xs.length = C
  grind

theorem ext_list (T : ByteArray) (a b : Nat) : (T.extract a b).data.toList = (T.data.toList.take b).drop a := by
  rw [ByteArray.data_extract]
  simp [List.drop_take]

set_option maxHeartbeats 2000000 in
theorem decimal_c (S : ByteArray) (w : World) (h : ∀ b ∈ S.data.toList, isDig b) (hl : S.data.toList.length ≤ 1000000) :
    Calls Tryz.prog 221 #[.string S] w (DgP 1000000000 (decVal S.data.toList) w) := by
  obtain ⟨l, hL⟩ : ∃ l, S.data.toList = l := ⟨_, rfl⟩
  rw [hL] at h hl ⊢
  have HD := Lib.hid h
  have HS := Lib.hid hL
  clear h hL
  go_enter Tryz.func221, Tryz.ntmps221
  go_wp2_with fail
  go_loopg [0, 3] l.length (fun g sv ov wr => ∃ (T : ByteArray) (xs : List Int), sv = .string T ∧ Hid (T.data.toList = l.take g) ∧ g ≤ l.length ∧ Hid (wr.ownsRow w.heap.size 3 1 ov xs.length (xs.map (Value.int .i64))) ∧ Hid (InR 1000000000 xs ∧ xs.length + g ≤ l.length ∧ val 1000000000 xs + (1000000000 : Int) ^ xs.length * (decVal (l.take g) : Int) = (decVal l : Int)) ∧ Hid (Below w.heap.size w wr))
  case atStart => exact ⟨S, [], rfl, by show _ = _; rw [HS.out, List.take_length], Nat.le_refl _, World.ownsRow_nil _ _ _ _, ⟨InR.nil _, by simp, by simp [val]⟩, Below.refl _ _⟩
  case round =>
    obtain ⟨T, xs, rfl, HT, hgl, HO, HX, HB⟩ := hrel
    have hTs : T.size = gk := by
      have := congrArg List.length HT.out
      rw [List.length_take, Nat.min_eq_left hgl] at this
      rw [Array.length_toList] at this
      exact this
    by_cases h0 : gk = 0
    · obtain ⟨hin, hlx, hval⟩ := HX.out
      subst h0
      rw [List.take_zero, show decVal [] = 0 from rfl] at hval
      have hv2 : val 1000000000 xs = ((decVal l : Nat) : Int) := by simpa using hval
      obtain ⟨A, c, rfl, hlc, hcm, hrow, hln⟩ := own_row HO.out
      have HROW := Lib.hid hrow
      have HF := Lib.hid (own_from HO.out)
      have HIN := Lib.hid hin
      have HV := Lib.hid hv2
      have hcm' : c ≤ 9223372036854775807 := by unfold maxLen at hcm; omega
      clear hin hval hv2 hrow hlx hgl
      go_wp2_with (go_at_call 222; refine (cut_c A c xs wr HROW.out hlc hcm').mono ?_; intro e w' hcut; obtain ⟨rfl, v, rfl, hdg, hblk⟩ := cut_dg (b := 1000000000) (by decide) HROW.out hlc hcm' HIN.out HV.out hcut)
      go_ret
      exact ⟨v, rfl, hdg, fun g hg => by obtain ⟨a, rfl, rfl⟩ := hblk g hg; exact HF.out _ rfl, HB.out⟩
    · have hk0 : 0 < gk := by omega
      by_cases h9 : 9 < gk
      · have hc9 : (0 : Int) < (gk : Int) - 9 := by omega
        obtain ⟨k, hk⟩ : ∃ k, gk - 9 = k := ⟨_, rfl⟩
        have hkg : k < gk := by omega
        obtain ⟨U, hU⟩ : ∃ U, T.extract (gk - 9) gk = U := ⟨_, rfl⟩
        have hUl : U.data.toList = (l.take gk).drop k := by rw [← hU, ext_list, HT.out, show gk - 9 = k by omega, List.take_take, Nat.min_self]
        obtain ⟨n0, hn0⟩ : ∃ n0, decVal ((l.take gk).drop k) = n0 := ⟨_, rfl⟩
        have hdg9 : ∀ b ∈ (l.take gk).drop k, isDig b := fun b hb => HD.out b (List.mem_of_mem_take (List.mem_of_mem_drop hb))
        have hlen9 : ((l.take gk).drop k).length = gk - k := by rw [List.length_drop, List.length_take, Nat.min_eq_left hgl]
        have hatoi := atoi_digits hdg9 (by intro e; rw [e] at hlen9; simp at hlen9; omega) (by omega)
        have hn9 : n0 < 1000000000 := by
          have := decVal_lt hdg9
          have h2 : 10 ^ ((l.take gk).drop k).length ≤ 10 ^ 9 := Nat.pow_le_pow_right (by decide) (by omega)
          rw [hn0] at this
          omega
        have hUs : U.size ≤ 9223372036854775806 := by
          have : U.size = gk - k := by rw [← hlen9, ← hUl, Array.length_toList]; rfl
          omega
        rw [hn0, ← hUl] at hatoi
        have HAT := Lib.hid hatoi
        have HU := Lib.hid hU
        have HN0 := Lib.hid hn0
        have HK := Lib.hid hk
        have HXL : Hid (xs.length ≤ 1000000) := by show xs.length ≤ 1000000; have := HX.out.2.1; omega
        clear hatoi hU hUl hn0 hdg9 hlen9 hk
        go_wp2_with (first | (go_at_call 238; rw [HU.out]; refine (Tryz.strconv_Atoi_ok U hUs (n0 : Int) HAT.out _).mono ?_; rintro e w1 ⟨rfl, hw1⟩; have HB1 : Hid (Below wr.heap.size wr w1) := (by rcases hw1 with rfl | ⟨t, rfl⟩; exact Below.refl _ _; exact Lib.bytesWorld_below _ _ _); have HO1 := Lib.hid (own_below HO.out HB1.out); have hsz1 := HB1.out.size; have hsz0 := HB.out.size; clear hw1) | (at_builtin; obtain ⟨i0, hi, hz0, hz1, hz2⟩ := info_parts info_int; refine wpList_append_own _ rfl _ _ 134 rfl w.heap.size 3 i0 (.int .i64 0) 1 8 Tryz.underlying134 hi hz0 hz1 hz2 rfl (by decide) _ _ _ rfl (HO1.out.alloc _) ⟨w1.heap.size, 0, none⟩ 1 1 [.int .i64 (n0 : Int)] rfl rfl (cell_one_new _ _ _) (by simp [Value.oneCell']) (by have := HXL.out; unfold maxLen; omega) (by have := HXL.out; omega) (by simp; omega) ?_; intro v' w2 hown1 hgrow1 _; have HO2 := Lib.hid hown1; have HG2 := Lib.hid hgrow1; clear hi hz0 hz1 hz2 hown1 hgrow1))
        go_roundg k
        case measure => exact hkg
        case rel =>
          obtain ⟨hin, hlx, hval⟩ := HX.out
          have hst := dec_step HK.out.symm hgl hval
          rw [HN0.out] at hst
          have hbb := below_then' HB.out HB1.out
          refine ⟨T.extract 0 (gk - 9), xs ++ [(n0 : Int)], rfl, ?_, by omega, by show World.ownsRow _ _ _ _ _ _ _; simpa using HO2.out, ⟨hin.snoc (by omega) (by omega), by rw [List.length_append, List.length_singleton]; omega, hst⟩, (hbb.alloc hbb.size _).grown HG2.out (by simp; omega) (own_from HO1.out)⟩
          show _ = _
          rw [ext_list, HT.out, HK.out, List.drop_zero, List.take_take, Nat.min_eq_left (by omega)]
      · have hc9 : ¬ (0 : Int) < (gk : Int) - 9 := by omega
        obtain ⟨k, hk⟩ : ∃ k, gk - 9 = k := ⟨_, rfl⟩
        have hkg : k < gk := by omega
        obtain ⟨U, hU⟩ : ∃ U, T.extract 0 gk = U := ⟨_, rfl⟩
        have hUl : U.data.toList = (l.take gk).drop k := by rw [← hU, ext_list, HT.out, show 0 = k by omega, List.take_take, Nat.min_self]
        obtain ⟨n0, hn0⟩ : ∃ n0, decVal ((l.take gk).drop k) = n0 := ⟨_, rfl⟩
        have hdg9 : ∀ b ∈ (l.take gk).drop k, isDig b := fun b hb => HD.out b (List.mem_of_mem_take (List.mem_of_mem_drop hb))
        have hlen9 : ((l.take gk).drop k).length = gk - k := by rw [List.length_drop, List.length_take, Nat.min_eq_left hgl]
        have hatoi := atoi_digits hdg9 (by intro e; rw [e] at hlen9; simp at hlen9; omega) (by omega)
        have hn9 : n0 < 1000000000 := by
          have := decVal_lt hdg9
          have h2 : 10 ^ ((l.take gk).drop k).length ≤ 10 ^ 9 := Nat.pow_le_pow_right (by decide) (by omega)
          rw [hn0] at this
          omega
        have hUs : U.size ≤ 9223372036854775806 := by
          have : U.size = gk - k := by rw [← hlen9, ← hUl, Array.length_toList]; rfl
          omega
        rw [hn0, ← hUl] at hatoi
        have HAT := Lib.hid hatoi
        have HU := Lib.hid hU
        have HN0 := Lib.hid hn0
        have HK := Lib.hid hk
        have HXL : Hid (xs.length ≤ 1000000) := by show xs.length ≤ 1000000; have := HX.out.2.1; omega
        clear hatoi hU hUl hn0 hdg9 hlen9 hk
        go_wp2_with (first | (go_at_call 238; rw [HU.out]; refine (Tryz.strconv_Atoi_ok U hUs (n0 : Int) HAT.out _).mono ?_; rintro e w1 ⟨rfl, hw1⟩; have HB1 : Hid (Below wr.heap.size wr w1) := (by rcases hw1 with rfl | ⟨t, rfl⟩; exact Below.refl _ _; exact Lib.bytesWorld_below _ _ _); have HO1 := Lib.hid (own_below HO.out HB1.out); have hsz1 := HB1.out.size; have hsz0 := HB.out.size; clear hw1) | (at_builtin; obtain ⟨i0, hi, hz0, hz1, hz2⟩ := info_parts info_int; refine wpList_append_own _ rfl _ _ 134 rfl w.heap.size 3 i0 (.int .i64 0) 1 8 Tryz.underlying134 hi hz0 hz1 hz2 rfl (by decide) _ _ _ rfl (HO1.out.alloc _) ⟨w1.heap.size, 0, none⟩ 1 1 [.int .i64 (n0 : Int)] rfl rfl (cell_one_new _ _ _) (by simp [Value.oneCell']) (by have := HXL.out; unfold maxLen; omega) (by have := HXL.out; omega) (by simp; omega) ?_; intro v' w2 hown1 hgrow1 _; have HO2 := Lib.hid hown1; have HG2 := Lib.hid hgrow1; clear hi hz0 hz1 hz2 hown1 hgrow1))
        go_roundg k
        case measure => exact hkg
        case rel =>
          obtain ⟨hin, hlx, hval⟩ := HX.out
          have hst := dec_step HK.out.symm hgl hval
          rw [HN0.out] at hst
          have hbb := below_then' HB.out HB1.out
          refine ⟨ByteArray.empty, xs ++ [(n0 : Int)], rfl, ?_, by omega, by show World.ownsRow _ _ _ _ _ _ _; simpa using HO2.out, ⟨hin.snoc (by omega) (by omega), by rw [List.length_append, List.length_singleton]; omega, hst⟩, (hbb.alloc hbb.size _).grown HG2.out (by simp; omega) (own_from HO1.out)⟩
          show _ = _
          rw [show k = 0 by have := HK.out; omega]; rfl
end Go.Proofs.YtekbfommnmikbaaGreatDoor

namespace Go.Proofs.YtekbfommnmikbaaGreatDoor
set_option linter.unusedVariables false
set_option linter.unusedSimpArgs false
open Go.RowKit Go.Shelf Go.Proofs

/-- What ContainsFunc asks of each rune. -/
def noDig (r : Nat) : Bool := decide (r < 48) || decide (57 < r)

theorem idx_from (S : ByteArray) : ∀ (f pos : Nat), S.size - pos ≤ f → (0 ≤ Lib.idxFuncFrom noDig true S f pos ↔ ∃ j, ∃ h : j < S.size, pos ≤ j ∧ ¬ isDig S[j])
  | 0, pos, hf => by
    constructor
    · intro h; simp [Lib.idxFuncFrom] at h
    · rintro ⟨j, h, h1, _⟩; omega
  | f + 1, pos, hf => by
    by_cases hp : pos < S.size
    · rw [Lib.idxFuncFrom, if_pos hp]
      by_cases hd : isDig S[pos]
      · have ha : (S[pos]'hp).toNat < 128 := by have := hd.2; omega
        have hdec : Utf8.decode S pos = ((S[pos]'hp).toNat, 1) := by
          simp only [Utf8.decode, get_at S pos hp, ha, if_true]
        rw [hdec]
        have h1 := hd.1
        have h2 := hd.2
        have hn : ¬ noDig (S[pos]'hp).toNat = true := by simp only [noDig, Bool.or_eq_true, decide_eq_true_eq]; omega
        rw [if_neg hn, idx_from S f (pos + 1) (by omega)]
        constructor
        · rintro ⟨j, h, h3, h4⟩; exact ⟨j, h, by omega, h4⟩
        · rintro ⟨j, h, h3, h4⟩
          refine ⟨j, h, ?_, h4⟩
          rcases Nat.eq_or_lt_of_le h3 with e | e
          · subst e; exact absurd hd h4
          · exact e
      · have hy : noDig (Utf8.decode S pos).1 = true := by
          simp only [noDig, Bool.or_eq_true, decide_eq_true_eq]
          rcases Nat.lt_or_ge (S[pos]'hp).toNat 128 with ha | ha
          · have hdec : Utf8.decode S pos = ((S[pos]'hp).toNat, 1) := by
              simp only [Utf8.decode, get_at S pos hp, ha, if_true]
            rw [hdec]
            have : ¬ (48 ≤ (S[pos]'hp).toNat ∧ (S[pos]'hp).toNat ≤ 57) := hd
            simp only []
            omega
          · have := (decode_high S pos hp ha).1
            omega
        rw [if_pos hy]
        exact ⟨fun _ => ⟨pos, hp, Nat.le_refl _, hd⟩, fun _ => Int.natCast_nonneg _⟩
    · rw [Lib.idxFuncFrom_end _ _ _ _ _ hp]
      constructor
      · intro h; omega
      · rintro ⟨j, h, h1, _⟩; omega

theorem idx_digits (S : ByteArray) : 0 ≤ Lib.idxFunc noDig true S ↔ ¬ ∀ b ∈ S.data.toList, isDig b := by
  rw [Lib.idxFunc, idx_from S S.size 0 (by omega)]
  constructor
  · rintro ⟨j, h, _, hd⟩ hall
    exact hd (hall _ (Array.getElem_mem_toList (xs := S.data) (i := j) h))
  · intro h
    simp only [Classical.not_forall] at h
    obtain ⟨b, hb, hd⟩ := h
    obtain ⟨j, hj, e⟩ := List.getElem_of_mem hb
    refine ⟨j, by simpa using hj, Nat.zero_le _, ?_⟩
    have : S[j]'(by simpa using hj) = b := by rw [← e]; rfl
    rw [this]; exact hd

set_option maxHeartbeats 1000000 in
theorem noDig_c (x : Nat) (hx : x ≤ 1114111) (w : World) : Calls Tryz.prog 135 #[encR x] w fun e w' => e = .returned (.bool (noDig x)) ∧ w' = w := by
  have key : (decide ((x : Int) < 48) || decide (57 < (x : Int))) = noDig x := by
    unfold noDig
    congr 1 <;> (rw [decide_eq_decide]; omega)
  have HK := Lib.hid key
  clear key
  by_cases h1 : x < 48
  · have HN : Hid (noDig x = true) := by show noDig x = true; simp [noDig, h1]
    go_enter Tryz.func135, Tryz.ntmps135
    go_wp2
    go_ret
    exact ⟨by rw [HN.out]; rfl, rfl⟩
  · go_enter Tryz.func135, Tryz.ntmps135
    go_wp2
    go_ret
    exact ⟨by rw [← HK.out]; rfl, rfl⟩

/-! ### The integers' texts -/
theorem decDigits_dig (u : Nat) : ∀ b ∈ Lib.decDigits u, isDig b := by
  induction u using Nat.strongRecOn with
  | _ u ih =>
    have key : ∀ d : Nat, d < 10 → isDig (UInt8.ofNat (48 + d)) := fun d hd => by
      unfold isDig
      rw [UInt8.toNat_ofNat']
      omega
    intro b hb
    rw [Lib.decDigits] at hb
    split at hb
    · rename_i h
      rw [List.mem_singleton] at hb
      subst hb
      exact key u h
    · rename_i h
      rcases List.mem_append.1 hb with h1 | h1
      · exact ih (u / 10) (by omega) b h1
      · rw [List.mem_singleton] at h1
        subst h1
        exact key (u % 10) (Nat.mod_lt _ (by decide))

theorem decVal_decDigits (u : Nat) : decVal (Lib.decDigits u) = u := by
  induction u using Nat.strongRecOn with
  | _ u ih =>
    have key : ∀ d : Nat, d < 10 → decVal [UInt8.ofNat (48 + d)] = d := fun d hd => by
      simp only [decVal, List.foldl_cons, List.foldl_nil]
      rw [UInt8.toNat_ofNat']
      omega
    rw [Lib.decDigits]
    split
    · rename_i h; exact key u h
    · rename_i h
      rw [decVal_append, ih (u / 10) (by omega), key _ (Nat.mod_lt _ (by decide))]
      simp
      omega

theorem decDigits_ne (u : Nat) : Lib.decDigits u ≠ [] := by
  intro e
  have := Lib.decDigits_length u
  rw [e] at this
  have := Lib.nDigits_pos u
  simp at *
  omega

theorem head_append {l : List UInt8} (m : List UInt8) (h : l ≠ []) : (l ++ m).head? = l.head? := by
  cases l with
  | nil => exact absurd rfl h
  | cons a l => rfl

theorem decDigits_head (u : Nat) (hu : 0 < u) : (Lib.decDigits u).head? ≠ some 48 := by
  induction u using Nat.strongRecOn with
  | _ u ih =>
    rw [Lib.decDigits]
    split
    · rename_i h
      simp only [List.head?_cons, ne_eq, Option.some.injEq]
      intro e
      have := congrArg UInt8.toNat e
      rw [UInt8.toNat_ofNat'] at this
      simp at this
      omega
    · rename_i h
      have := ih (u / 10) (by omega) (by omega)
      have hne := decDigits_ne (u / 10)
      rwa [head_append _ hne]

theorem decDigits_zero : Lib.decDigits 0 = [48] := by rw [Lib.decDigits_one (by decide)]; rfl

theorem decVal_pos : ∀ {d : List UInt8}, (∀ b ∈ d, isDig b) → d ≠ [] → d.head? ≠ some 48 → 0 < decVal d
  | [], _, h, _ => absurd rfl h
  | b :: d, hd, _, hh => by
    have hb := hd b (List.mem_cons_self ..)
    have h1 := hb.1
    have hne : b.toNat ≠ 48 := fun e => hh (by simp; exact UInt8.toNat_inj.1 e)
    rw [show b :: d = [b] ++ d from rfl, decVal_append]
    have e : decVal [b] = b.toNat - 48 := by simp [decVal]
    have : 1 ≤ 10 ^ d.length := Nat.one_le_pow _ _ (by decide)
    have h2 : 1 * 1 ≤ decVal [b] * 10 ^ d.length := Nat.mul_le_mul (by omega) this
    omega

theorem dec_canon : ∀ (n : Nat) (d : List UInt8), d.length = n + 1 → (∀ b ∈ d, isDig b) → (d = [48] ∨ d.head? ≠ some 48) → Lib.decDigits (decVal d) = d := by
  intro n
  induction n with
  | zero =>
    intro d hl hd _
    match d, hl with
    | [b], _ =>
      have hb := hd b (List.mem_cons_self ..)
      have h1 := hb.1
      have h2 := hb.2
      have e : decVal [b] = b.toNat - 48 := by simp [decVal]
      rw [e, Lib.decDigits_one (by omega), show 48 + (b.toNat - 48) = b.toNat by omega, UInt8.ofNat_toNat]
  | succ n ih =>
    intro d hl hd hh
    have hne : d ≠ [] := by intro e; rw [e] at hl; simp at hl
    obtain ⟨d', b, rfl⟩ : ∃ d' b, d = d' ++ [b] := ⟨d.dropLast, d.getLast hne, (List.dropLast_concat_getLast hne).symm⟩
    have hl' : d'.length = n + 1 := by simpa using hl
    have hne' : d' ≠ [] := by intro e; rw [e] at hl'; simp at hl'
    have hb := hd b (by simp)
    have h1 := hb.1
    have h2 := hb.2
    have hd' : ∀ c ∈ d', isDig c := fun c hc => hd c (List.mem_append_left _ hc)
    have hh' : d'.head? ≠ some 48 := by
      rcases hh with hh | hh
      · have := congrArg List.length hh; simp at this; exact absurd this (by intro e; exact hne' e)
      · rwa [head_append _ hne'] at hh
    have hp := decVal_pos hd' hne' hh'
    have e : decVal [b] = b.toNat - 48 := by simp [decVal]
    have ev : decVal (d' ++ [b]) = decVal d' * 10 + (b.toNat - 48) := by rw [decVal_append, e]; simp
    rw [ev, Lib.decDigits, dif_neg (by omega), show (decVal d' * 10 + (b.toNat - 48)) / 10 = decVal d' by omega, show (decVal d' * 10 + (b.toNat - 48)) % 10 = b.toNat - 48 by omega, ih d' hl' hd' (.inr hh'), show 48 + (b.toNat - 48) = b.toNat by omega, UInt8.ofNat_toNat]

/-- l is the text of the integer z, of at most 200 digits. -/
def NumL (l : List UInt8) (z : Int) : Prop := l = Lib.itoa z ∧ z.natAbs < 10 ^ 200

theorem itoa_inj {x y : Int} (h : Lib.itoa x = Lib.itoa y) : x = y := by
  have key : ∀ u v : Nat, Lib.decDigits u = 45 :: Lib.decDigits v → False := fun u v e => by
    have := decDigits_dig u 45 (by rw [e]; simp)
    have h2 := this.1
    simp at h2
  unfold Lib.itoa at h
  split at h <;> split at h
  · have := congrArg decVal (List.cons.inj h).2
    rw [decVal_decDigits, decVal_decDigits] at this; omega
  · exact (key _ _ h.symm).elim
  · exact (key _ _ h).elim
  · have := congrArg decVal h
    rw [decVal_decDigits, decVal_decDigits] at this; omega


/-- What Valid looks at. -/
def validD (l d : List UInt8) : Prop := d ≠ [] ∧ d.length ≤ 200 ∧ ¬ (d.head? = some 48 ∧ l ≠ [48]) ∧ ∀ b ∈ d, isDig b

theorem trim_minus (r : List UInt8) : Lib.trimPrefix (45 :: r) [45] = r := by simp [Lib.trimPrefix, Lib.hasPrefix]
theorem trim_other {l : List UInt8} (h : l.head? ≠ some 45) : Lib.trimPrefix l [45] = l := by
  unfold Lib.trimPrefix Lib.hasPrefix
  rw [if_neg]
  intro e
  cases l with
  | nil => simp at e
  | cons a l =>
    simp at e
    exact h (by simp [e])

theorem len200 (u : Nat) : (Lib.decDigits u).length ≤ 200 ↔ u < 10 ^ 200 := by rw [Lib.decDigits_length]; exact nDigits_le (by decide)

theorem valid_iff (l : List UInt8) : validD l (Lib.trimPrefix l [45]) ↔ ∃ z, NumL l z := by
  constructor
  · rintro ⟨h1, h2, h3, h4⟩
    have hcan : ∀ d, Lib.trimPrefix l [45] = d → (d = [48] ∨ d.head? ≠ some 48) → Lib.decDigits (decVal d) = d ∧ decVal d < 10 ^ 200 := by
      intro d e hh
      rw [e] at h1 h2 h4
      have hlen : 0 < d.length := List.length_pos_iff.2 h1
      have := dec_canon (d.length - 1) d (by omega) h4 hh
      exact ⟨this, (len200 _).1 (by rw [this]; exact h2)⟩
    by_cases hm : l.head? = some 45
    · obtain ⟨r, rfl⟩ : ∃ r, l = 45 :: r := by
        cases l with
        | nil => simp at hm
        | cons a l => simp at hm; exact ⟨l, by rw [hm]⟩
      rw [trim_minus] at h1 h2 h3 h4 hcan
      have h48 : r.head? ≠ some 48 := fun e => h3 ⟨e, by simp⟩
      obtain ⟨c1, c2⟩ := hcan r rfl (.inr h48)
      have hp := decVal_pos h4 h1 h48
      refine ⟨-(decVal r : Int), ?_, by simpa using c2⟩
      rw [Lib.itoa, if_pos (by omega), show (-(decVal r : Int)).natAbs = decVal r by omega, c1]
    · rw [trim_other hm] at h1 h2 h3 h4 hcan
      have hh : l = [48] ∨ l.head? ≠ some 48 := by
        by_cases e : l = [48]
        · exact .inl e
        · exact .inr fun k => h3 ⟨k, e⟩
      obtain ⟨c1, c2⟩ := hcan l rfl hh
      refine ⟨(decVal l : Int), ?_, by simpa using c2⟩
      rw [Lib.itoa, if_neg (by omega), Int.toNat_natCast, c1]
  · rintro ⟨z, rfl, hz⟩
    by_cases hn : z < 0
    · rw [Lib.itoa, if_pos hn, trim_minus]
      refine ⟨decDigits_ne _, (len200 _).2 hz, fun h => decDigits_head _ (by omega) h.1, decDigits_dig _⟩
    · have hz' : z.toNat < 10 ^ 200 := by omega
      have hh : (Lib.decDigits z.toNat).head? ≠ some 45 := fun e => by
        have := decDigits_dig z.toNat 45 (List.mem_of_mem_head? e)
        have := this.1
        simp at this
      rw [Lib.itoa, if_neg hn, trim_other hh]
      refine ⟨decDigits_ne _, (len200 _).2 hz', fun h => ?_, decDigits_dig _⟩
      rcases Nat.eq_zero_or_pos z.toNat with h0 | h0
      · exact h.2 (by rw [h0, decDigits_zero])
      · exact decDigits_head _ h0 h.1

set_option maxHeartbeats 2000000 in
theorem valid_c (S : ByteArray) (w : World) : Calls Tryz.prog 62 #[.string S] w fun e w' => (∃ b, e = .returned (.bool b) ∧ (b = true ↔ ∃ z, NumL S.data.toList z)) ∧ Below w.heap.size w w' := by
  obtain ⟨D, hD⟩ : ∃ D : ByteArray, ⟨(Lib.trimPrefix S.data.toList [45]).toArray⟩ = D := ⟨_, rfl⟩
  have hDl : D.data.toList = Lib.trimPrefix S.data.toList [45] := by rw [← hD]
  have hV := valid_iff S.data.toList
  rw [← hDl] at hV
  have hsz : D.size = D.data.toList.length := by rw [Array.length_toList]; rfl
  have hla : D.toList = [] ↔ D.data.toList = [] := by rw [ByteArray.toList_eq]
  have hls : S.toList = [48] ↔ S.data.toList = [48] := by rw [ByteArray.toList_eq]
  have hid := idx_digits D
  unfold validD at hV
  have HD := Lib.hid hD
  clear hD hDl
  by_cases ha : D.toList = []
  · have hno : ¬ ∃ z, NumL S.data.toList z := fun h => (hV.2 h).1 (hla.1 ha)
    have HNO := Lib.hid hno
    clear hno hV hla hls hid hsz
    go_enter Tryz.func62, Tryz.ntmps62
    go_wp2_with (first | (go_at_call 133; refine (Tryz.strings_TrimPrefix S _ _).mono ?_; rintro e w' ⟨rfl, rfl⟩; rw [show (ByteArray.mk #[45]).data.toList = [45] from rfl, HD.out]) | (go_at_call 134; refine (Tryz.strings_ContainsFunc_runes 135 #[] (enters_of Tryz.func135 (by kernel_rfl) rfl) noDig D _ (fun W x hx hb => (noDig_c x hx W).mono (by rintro e w' ⟨rfl, rfl⟩; exact ⟨rfl, 0, rfl⟩))).mono ?_; rintro e w' ⟨rfl, hb⟩; have HBL := Lib.hid hb; clear hb))
    go_ret
    exact ⟨⟨_, rfl, ⟨fun h => by simp at h, fun h => absurd h HNO.out⟩⟩, (by repeat (first | exact Below.refl _ _ | exact HB.out | (refine Below.alloc ?_ (by first | (simp; done) | (simp; omega)) _) | (refine Below.setCell ?_ (by first | (simp; done) | (simp; omega)) _) | refine Below.drew ?_ | refine below_drewN ?_ _))⟩
  · have hne : D.data.toList ≠ [] := fun h => ha (hla.2 h)
    have hpos : 0 < D.size := by rw [hsz]; exact List.length_pos_iff.2 hne
    by_cases hb : (200 : Int) < (D.size : Int)
    · have hno : ¬ ∃ z, NumL S.data.toList z := fun h => by have := (hV.2 h).2.1; omega
      have HNO := Lib.hid hno
      clear hno hV hla hls hid hsz hne
      go_enter Tryz.func62, Tryz.ntmps62
      go_wp2_with (first | (go_at_call 133; refine (Tryz.strings_TrimPrefix S _ _).mono ?_; rintro e w' ⟨rfl, rfl⟩; rw [show (ByteArray.mk #[45]).data.toList = [45] from rfl, HD.out]) | (go_at_call 134; refine (Tryz.strings_ContainsFunc_runes 135 #[] (enters_of Tryz.func135 (by kernel_rfl) rfl) noDig D _ (fun W x hx hb => (noDig_c x hx W).mono (by rintro e w' ⟨rfl, rfl⟩; exact ⟨rfl, 0, rfl⟩))).mono ?_; rintro e w' ⟨rfl, hb⟩; have HBL := Lib.hid hb; clear hb))
      go_ret
      exact ⟨⟨_, rfl, ⟨fun h => by simp at h, fun h => absurd h HNO.out⟩⟩, (by repeat (first | exact Below.refl _ _ | exact HB.out | (refine Below.alloc ?_ (by first | (simp; done) | (simp; omega)) _) | (refine Below.setCell ?_ (by first | (simp; done) | (simp; omega)) _) | refine Below.drew ?_ | refine below_drewN ?_ _))⟩
    · have hae : D.toList.isEmpty = false := by simpa using ha
      have hbd : decide ((200 : Int) < (D.size : Int)) = false := decide_eq_false hb
      have hhd : D.data.toList.head? = some (D[0]'hpos) := by
        have : 0 < D.data.toList.length := by omega
        rw [List.head?_eq_getElem?, List.getElem?_eq_getElem this]
        rfl
      by_cases hc : ((D[0]'hpos).toNat : Int) = 48
      · have h48n : (D[0]'hpos).toNat = 48 := by omega
        have h48 : D[0]'hpos = 48 := UInt8.toNat_inj.1 h48n
        by_cases hs : S.toList = [48]
        · have hsb : (S.toList == [48]) = true := by simp [hs]
          have hyes : (¬ 0 ≤ Lib.idxFunc noDig true D) ↔ ∃ z, NumL S.data.toList z := by
            rw [← hV, hid, Classical.not_not]
            exact ⟨fun h => ⟨hne, by omega, fun k => k.2 (hls.1 hs), h⟩, fun h => h.2.2.2⟩
          have HY := Lib.hid hyes
          clear hyes hV hla hls hid hsz hne hhd h48
          go_enter Tryz.func62, Tryz.ntmps62
          go_wp2_with (first | (go_at_call 133; refine (Tryz.strings_TrimPrefix S _ _).mono ?_; rintro e w' ⟨rfl, rfl⟩; rw [show (ByteArray.mk #[45]).data.toList = [45] from rfl, HD.out]) | (go_at_call 134; refine (Tryz.strings_ContainsFunc_runes 135 #[] (enters_of Tryz.func135 (by kernel_rfl) rfl) noDig D _ (fun W x hx hb => (noDig_c x hx W).mono (by rintro e w' ⟨rfl, rfl⟩; exact ⟨rfl, 0, rfl⟩))).mono ?_; rintro e w' ⟨rfl, hb⟩; have HBL := Lib.hid hb; clear hb))
          go_ret
          exact ⟨⟨_, rfl, by rw [← HY.out]; simp⟩, HBL.out⟩
        · have hsb : (S.toList == [48]) = false := by simp [hs]
          have hno : ¬ ∃ z, NumL S.data.toList z := fun h => (hV.2 h).2.2.1 ⟨by rw [hhd, h48], fun k => hs (hls.2 k)⟩
          have HNO := Lib.hid hno
          clear hno hV hla hls hid hsz hne hhd h48
          go_enter Tryz.func62, Tryz.ntmps62
          go_wp2_with (first | (go_at_call 133; refine (Tryz.strings_TrimPrefix S _ _).mono ?_; rintro e w' ⟨rfl, rfl⟩; rw [show (ByteArray.mk #[45]).data.toList = [45] from rfl, HD.out]) | (go_at_call 134; refine (Tryz.strings_ContainsFunc_runes 135 #[] (enters_of Tryz.func135 (by kernel_rfl) rfl) noDig D _ (fun W x hx hb => (noDig_c x hx W).mono (by rintro e w' ⟨rfl, rfl⟩; exact ⟨rfl, 0, rfl⟩))).mono ?_; rintro e w' ⟨rfl, hb⟩; have HBL := Lib.hid hb; clear hb))
          go_ret
          exact ⟨⟨_, rfl, ⟨fun h => by simp at h, fun h => absurd h HNO.out⟩⟩, (by repeat (first | exact Below.refl _ _ | exact HB.out | (refine Below.alloc ?_ (by first | (simp; done) | (simp; omega)) _) | (refine Below.setCell ?_ (by first | (simp; done) | (simp; omega)) _) | refine Below.drew ?_ | refine below_drewN ?_ _))⟩
      · have hcb : (((D[0]'hpos).toNat : Int) == 48) = false := by simpa using hc
        have hyes : (¬ 0 ≤ Lib.idxFunc noDig true D) ↔ ∃ z, NumL S.data.toList z := by
          rw [← hV, hid, Classical.not_not]
          refine ⟨fun h => ⟨hne, by omega, fun k => ?_, h⟩, fun h => h.2.2.2⟩
          rw [hhd] at k
          have := congrArg UInt8.toNat (Option.some.inj k.1)
          simp at this
          omega
        have HY := Lib.hid hyes
        clear hyes hV hla hls hid hsz hne hhd
        go_enter Tryz.func62, Tryz.ntmps62
        go_wp2_with (first | (go_at_call 133; refine (Tryz.strings_TrimPrefix S _ _).mono ?_; rintro e w' ⟨rfl, rfl⟩; rw [show (ByteArray.mk #[45]).data.toList = [45] from rfl, HD.out]) | (go_at_call 134; refine (Tryz.strings_ContainsFunc_runes 135 #[] (enters_of Tryz.func135 (by kernel_rfl) rfl) noDig D _ (fun W x hx hb => (noDig_c x hx W).mono (by rintro e w' ⟨rfl, rfl⟩; exact ⟨rfl, 0, rfl⟩))).mono ?_; rintro e w' ⟨rfl, hb⟩; have HBL := Lib.hid hb; clear hb))
        go_ret
        exact ⟨⟨_, rfl, by rw [← HY.out]; simp⟩, HBL.out⟩

end Go.Proofs.YtekbfommnmikbaaGreatDoor

namespace Go.Proofs.YtekbfommnmikbaaGreatDoor
set_option linter.unusedVariables false
set_option linter.unusedSimpArgs false
open Go.RowKit Go.Shelf Go.Proofs

theorem trim_text (z : Int) : Lib.trimPrefix (Lib.itoa z) [45] = Lib.decDigits z.natAbs ∧ Lib.hasPrefix (Lib.itoa z) [45] = decide (z < 0) := by
  by_cases hn : z < 0
  · rw [Lib.itoa, if_pos hn, trim_minus]
    exact ⟨rfl, by simp [Lib.hasPrefix, hn]⟩
  · have hh : (Lib.decDigits z.toNat).head? ≠ some 45 := fun e => by
      have := decDigits_dig z.toNat 45 (List.mem_of_mem_head? e)
      have := this.1
      simp at this
    rw [Lib.itoa, if_neg hn, trim_other hh]
    refine ⟨by rw [show z.toNat = z.natAbs by omega], ?_⟩
    rw [decide_eq_false hn]
    cases hl : Lib.decDigits z.toNat with
    | nil => exact absurd hl (decDigits_ne _)
    | cons a l =>
      rw [hl] at hh
      simp at hh
      have : ¬ 45 = a := fun e => hh e.symm
      simp [Lib.hasPrefix, List.isPrefixOf, this]

/-- How read ends. -/
def ReadP (l : List UInt8) (w : World) (e : Ending) (w' : World) : Prop :=
  (∃ z, NumL l z ∧ WhPN z w e w') ∨ ((¬ ∃ z, NumL l z) ∧ e = .panicked (failChain 1) ∧ Below w.heap.size w w')

set_option maxHeartbeats 1000000 in
theorem read_c (S : ByteArray) (w : World) : Calls Tryz.prog 188 #[.string S] w (ReadP S.data.toList w) := by
  by_cases hv : ∃ z, NumL S.data.toList z
  · obtain ⟨z, hz⟩ := hv
    obtain ⟨D, hD⟩ : ∃ D : ByteArray, ⟨(Lib.trimPrefix S.data.toList [45]).toArray⟩ = D := ⟨_, rfl⟩
    have hDl : D.data.toList = Lib.decDigits z.natAbs := by rw [← hD, hz.1]; exact (trim_text z).1
    have hpre : Lib.hasPrefix S.data.toList [45] = decide (z < 0) := by rw [hz.1]; exact (trim_text z).2
    have hdg : ∀ b ∈ D.data.toList, isDig b := by rw [hDl]; exact decDigits_dig _
    have hdl : D.data.toList.length ≤ 1000000 := by rw [hDl]; have := (len200 z.natAbs).2 hz.2; omega
    have hdv : decVal D.data.toList = z.natAbs := by rw [hDl, decVal_decDigits]
    have HD := Lib.hid hD
    have HPRE := Lib.hid hpre
    have HDG := Lib.hid hdg
    have HDL := Lib.hid hdl
    have HDV := Lib.hid hdv
    have HZ := Lib.hid hz
    have hsg : (decide (z < 0) && decide (0 < z.natAbs)) = decide (z < 0) := by
      by_cases h : z < 0
      · rw [decide_eq_true h, decide_eq_true (by omega : 0 < z.natAbs)]; rfl
      · rw [decide_eq_false h]; rfl
    have HSG := Lib.hid hsg
    generalize hbz' : decide (z < 0) = bz at *
    clear hD hDl hpre hdg hdl hdv hz hsg
    go_enter Tryz.func188, Tryz.ntmps188
    go_wp2_with fail
    obtain ⟨W, hW, k0, f0, hbel, hsz⟩ := boxes1 w #[.bool false, .slice none 0 0] 136
    rw [hW]
    have c00 := k0 0; have c01 := k0 1; have f00 := f0 0; have f01 := f0 1
    simp at c00 c01
    clear k0 f0 hW
    go_wp2_with (first | (go_at_call 62; refine (valid_c S _).mono ?_; rintro e W2 ⟨⟨b, rfl, hb⟩, hbz⟩; have hbt : b = true := hb.2 ⟨z, HZ.out⟩; subst hbt; have f00 := keep_free' hbz c00 f00; have f01 := keep_free' hbz c01 f01; have c00 := keep_cell hbz c00; have c01 := keep_cell hbz c01; have HB := Lib.hid (hbel.call hbz); clear hb hbz) | (go_at_call 136; refine (Tryz.strings_CutPrefix S _ _).mono ?_; rintro e W3 ⟨rfl, rfl⟩; rw [show (ByteArray.mk #[45]).data.toList = [45] from rfl, HD.out, HPRE.out]) | (go_at_call 221; refine (decimal_c D _ HDG.out HDL.out).mono ?_; rintro e W4 ⟨u, rfl, hu, hfu, hbz⟩; rw [HDV.out] at hu; obtain ⟨A6, n6, c6, rfl⟩ := hu.form; have HU := Lib.hid hu; have HFU := Lib.hid (hfu.mono (Nat.succ_le_of_lt (World.block_lt_of_cell? _ _ c00))); have HB4 := Lib.hid (HB.out.call hbz); have f00 := keep_free' hbz c00 f00; have f01 := keep_free' hbz c01 f01; have c00 := keep_cell hbz c00; have c01 := keep_cell hbz c01; clear hu hfu hbz) | (go_at_call 189; refine (made_c _ _ z.natAbs _ HU.out).mono ?_; rintro e W5 ⟨rfl, hbz⟩; have HB5 := Lib.hid (HB4.out.call hbz); have HU5 := Lib.hid (HU.out.below hbz); have f00 := keep_free' hbz c00 f00; have f01 := keep_free' hbz c01 f01; have c00 := keep_cell hbz c00; have c01 := keep_cell hbz c01; clear hbz))
    refine bodyPost_ret (v := .agg #[.bool (bz && !decide (z = 0)), .slice A6 n6 c6]) (by simp [results, Tryz.results188, go_sem, c00, c01]) rfl ?_
    refine .inl ⟨z, HZ.out, whPN_mk ?_ ?_ (HFU.out.mono (by omega)) ?_⟩
    · rw [← hbz']
      by_cases h : z < 0
      · rw [decide_eq_true h, decide_eq_false (by omega : ¬ z = 0)]; rfl
      · rw [decide_eq_false h]; rfl
    · exact Dg.set (k := w.heap.size + 1) (Dg.set (k := w.heap.size + 1) HU5.out HFU.out (by simp) _) HFU.out (by simp) _
    · exact ((HB5.out.set (a := ⟨w.heap.size, 0, none⟩) _ (by simp)).set (a := ⟨w.heap.size, 1, none⟩) _ (by simp)).to
  · have HV := Lib.hid hv
    clear hv
    go_enter Tryz.func188, Tryz.ntmps188
    go_wp2_with (go_at_call 62; refine (valid_c S _).mono ?_; rintro e W2 ⟨⟨b, rfl, hb⟩, hbz⟩; have hbf : b = false := (by cases b; rfl; exact absurd (hb.1 rfl) HV.out); subst hbf; have HB := Lib.hid (Below.trans ((Below.refl w.heap.size w).alloc (Nat.le_refl _) _) (hbz.mono (by simp))); clear hb hbz)
    exact ⟨rfl, .inr ⟨HV.out, rfl, HB.out⟩⟩

/-- guard, where nothing has panicked. -/
theorem guard_idle (p : Addr) (w : World) :
    CallsD Tryz.prog 187 #[.pointer (some p)] .returning w fun e u' w' => e = .returned (.tuple #[]) ∧ u' = .returning ∧ w' = w := by
  refine callsD_of_wpS Tryz.func187 rfl fun c₀ cs hu => ?_
  apply wpS_seq
  apply wpS_region
  simp [wpOpsS, go_sem, recoverD, hu, Tryz.ntmps187, Exit.thenS]
  refine wpS_of_wp ?_
  simp only [Array.replicate_succ, Array.replicate_zero, List.push_toArray, List.append_toArray, List.nil_append, List.cons_append, List.setIfInBounds_toArray, List.set_cons_zero, List.set_cons_succ]
  go_wp2
  cases c₀
  simp_all [bodyPostS, results, Tryz.results187]

set_option maxRecDepth 100000 in
set_option maxHeartbeats 1000000 in
theorem guard_panic (p : Addr) (k : Int) (u : Value) (w : World) (hc : w.cell? p = some u) (hz : w.frozen? p = false) :
    CallsD Tryz.prog 187 #[.pointer (some p)] (.panicking (failChain k)) w fun e u' w' => e = .returned (.tuple #[]) ∧ u' = .panicking [{ v := .iface 198 (.agg #[.int .i64 k]), recovered := true }] ∧ w' = (w.alloc (.cells #[.int .i64 k] 198)).setCell p (.int .i64 k) := by
  have hta : ∀ (xT : TypeId) (w : World), (Instr.typeAssert (.iface 198 (.agg #[.int .i64 k])) xT 198 true).run Tryz.prog w = .ok (.tuple #[.agg #[.int .i64 k], .bool true]) w := fun xT w => by rfl
  have hc' : (w.alloc (.cells #[.int .i64 k] 198)).cell? p = some u := keep_cell ((Below.refl _ _).alloc (Nat.le_refl _) _) hc
  have hz' : (w.alloc (.cells #[.int .i64 k] 198)).frozen? p = false := keep_free' ((Below.refl _ _).alloc (Nat.le_refl _) _) hc hz
  unfold failChain
  refine callsD_of_wpS Tryz.func187 rfl fun c₀ cs hu => ?_
  apply wpS_seq
  apply wpS_region
  simp [wpOpsS, go_sem, recoverD, hu, Tryz.ntmps187, Exit.thenS]
  refine wpS_of_wp ?_
  have HU := Lib.hid hu
  clear hu
  simp only [Array.replicate_succ, Array.replicate_zero, List.push_toArray, List.append_toArray, List.nil_append, List.cons_append, List.setIfInBounds_toArray, List.set_cons_zero, List.set_cons_succ]
  go_wp2
  have hu := HU.out
  clear hta hc hz hc' hz' HU
  cases c₀
  simp_all [bodyPostS, results, Tryz.results187]

end Go.Proofs.YtekbfommnmikbaaGreatDoor

namespace Go.Proofs.YtekbfommnmikbaaGreatDoor
set_option linter.unusedVariables false
set_option linter.unusedSimpArgs false
open Go.RowKit Go.Shelf Go.Proofs

/-- v is a slice of the strings l. -/
def Strs (w : World) (v : Value) (l : List ByteArray) : Prop := ∃ A c, v = .slice A l.length c ∧ ∀ j, j < l.length → ∃ a, A = some a ∧ w.cell? (a.add j) = some (.string (l[j]?.getD ⟨#[]⟩))
theorem Strs.below {w w' : World} {v : Value} {l : List ByteArray} (h : Strs w v l) (hb : Below w.heap.size w w') : Strs w' v l := by
  obtain ⟨A, c, e, h⟩ := h
  refine ⟨A, c, e, fun j hj => ?_⟩
  obtain ⟨a, e', hc⟩ := h j hj
  exact ⟨a, e', keep_cell hb hc⟩

/-- The cells of some wholes. -/
def whCells : List (Bool × Value) → List Value
  | [] => []
  | (b, p) :: l => .bool b :: p :: whCells l
theorem whCells_length : ∀ l, (whCells l).length = l.length * 2
  | [] => rfl
  | (b, p) :: l => by simp [whCells, whCells_length l]; omega
theorem whCells_append : ∀ l m, whCells (l ++ m) = whCells l ++ whCells m
  | [], m => rfl
  | (b, p) :: l, m => by simp [whCells, whCells_append l m]
theorem whCells_at : ∀ (l : List (Bool × Value)) (j : Nat) (b : Bool) (p : Value), l[j]? = some (b, p) → (whCells l)[2 * j]? = some (.bool b) ∧ (whCells l)[2 * j + 1]? = some p
  | [], j, b, p, h => by simp at h
  | (b', p') :: l, 0, b, p, h => by simp at h; obtain ⟨rfl, rfl⟩ := h; exact ⟨rfl, rfl⟩
  | (b', p') :: l, j + 1, b, p, h => by
    have := whCells_at l j b p (by simpa using h)
    rw [show 2 * (j + 1) = 2 * j + 1 + 1 by omega, show 2 * j + 1 + 1 + 1 = (2 * j + 1) + 1 + 1 by omega]
    exact this

/-- v is a slice of the wholes zs. -/
def Whs (w : World) (v : Value) (zs : List Int) : Prop := ∃ A c, v = .slice A zs.length c ∧ ∀ j, j < zs.length → ∃ a p, A = some ⟨a, 0, none⟩ ∧ w.cell? ⟨a, 2 * j, none⟩ = some (.bool (decide (zs[j]?.getD 0 < 0))) ∧ w.cell? ⟨a, 2 * j + 1, none⟩ = some p ∧ Dg 1000000000 w p (zs[j]?.getD 0).natAbs
theorem Whs.below {w w' : World} {v : Value} {zs : List Int} (h : Whs w v zs) (hb : Below w.heap.size w w') : Whs w' v zs := by
  obtain ⟨A, c, e, h⟩ := h
  refine ⟨A, c, e, fun j hj => ?_⟩
  obtain ⟨a, p, e', h1, h2, h3⟩ := h j hj
  exact ⟨a, p, e', keep_cell hb h1, keep_cell hb h2, h3.below hb⟩

/-- How a function over wholes ends. -/
inductive Out where
  | ok (v : Value)
  | err (k : Int)
def Out.end_ : Out → Ending
  | .ok v => .returned v
  | .err k => .panicked (failChain k)
/-- What with makes of it (z: the result type's zero value). -/
def Out.res (z : Value) : Out → Value
  | .ok v => .tuple #[v, .int .i64 0]
  | .err k => .tuple #[z, .int .i64 k]

/-- All strings are texts of the integers zs. -/
def AllNum (l : List ByteArray) (zs : List Int) : Prop := l.length = zs.length ∧ ∀ j, j < l.length → NumL (l[j]?.getD ⟨#[]⟩).data.toList (zs[j]?.getD 0)

/-- What has been read lies so in w: the list's own row, and the parts, none of them in that row. -/
structure Got (B : Nat) (w : World) (v : Value) (ps : List (Bool × Value)) (zs : List Int) : Prop where
  own : w.ownsRow B 136 2 v ps.length (whCells ps)
  len : ps.length = zs.length
  at_ : ∀ (j : Nat) (b : Bool) (p : Value), ps[j]? = some (b, p) → b = decide (zs[j]?.getD 0 < 0) ∧ Dg 1000000000 w p (zs[j]?.getD 0).natAbs ∧ (zs[j]?.getD 0 = 0 ∨ ∀ g, p.ownBlock = some g → g < w.heap.size ∧ v.ownBlock ≠ some g)

theorem Got.nil (B : Nat) (w : World) : Got B w (.slice none 0 0) [] [] := ⟨World.ownsRow_nil _ _ _ _, rfl, fun j b p h => by simp at h⟩

theorem Got.below {B : Nat} {w w' : World} {v : Value} {ps : List (Bool × Value)} {zs : List Int} (h : Got B w v ps zs) (hb : Below w.heap.size w w') : Got B w' v ps zs :=
  ⟨own_below h.own hb, h.len, fun j b p hj => by
    obtain ⟨h1, h2, h3⟩ := h.at_ j b p hj
    exact ⟨h1, h2.below hb, h3.imp id fun h3 g hg => ⟨Nat.lt_of_lt_of_le (h3 g hg).1 hb.size, (h3 g hg).2⟩⟩⟩

theorem Got.whs {B : Nat} {w : World} {v : Value} {ps : List (Bool × Value)} {zs : List Int} (h : Got B w v ps zs) : Whs w v zs := by
  have key : ∃ A c, v = .slice A ps.length c ∧ ∀ j, j < ps.length * 2 → ∃ a, A = some ⟨a, 0, none⟩ ∧ w.cell? ⟨a, j, none⟩ = (whCells ps)[j]? := by
    rcases h.own.2 with ⟨rfl, h0⟩ | ⟨g, cap, cur, rfl, _⟩
    · exact ⟨none, 0, by rw [h0], fun j hj => by omega⟩
    · refine ⟨_, cap, rfl, fun j hj => ⟨_, rfl, ?_⟩⟩
      have hlt : j < (whCells ps).length := by rw [whCells_length]; exact hj
      rw [List.getElem?_eq_getElem hlt]
      have := h.own.cells (g := g) rfl j _ (List.getElem?_eq_getElem hlt)
      rw [add_lit, Nat.zero_add] at this
      exact this
  obtain ⟨A, c, e, hc⟩ := key
  refine ⟨A, c, by rw [e, h.len], fun j hj => ?_⟩
  have hj' : j < ps.length := by rw [h.len]; exact hj
  obtain ⟨⟨b, p⟩, hbp⟩ : ∃ x, ps[j] = x := ⟨_, rfl⟩
  have hat : ps[j]? = some (b, p) := by rw [List.getElem?_eq_getElem hj', hbp]
  obtain ⟨h1, h2⟩ := whCells_at ps j b p hat
  obtain ⟨h3, h4, _⟩ := h.at_ j b p hat
  obtain ⟨a, ea, h5⟩ := hc (2 * j) (by omega)
  obtain ⟨a', ea', h6⟩ := hc (2 * j + 1) (by omega)
  rw [ea] at ea'; cases ea'
  exact ⟨a, p, ea, by rw [h5, h1, h3], by rw [h6, h2], h4⟩


theorem dg_any {b : Nat} {w w' : World} {p : Value} (h : Dg b w p 0) : Dg b w' p 0 := by
  obtain ⟨A, c, e, h1, h2, _⟩ := h
  rw [dg_zero] at e h1
  unfold Dg
  rw [dg_zero]
  exact ⟨A, c, e, h1, h2, Row.nil⟩
theorem dg_block {b : Nat} (hb : 2 ≤ b) {w : World} {p : Value} {n g : Nat} (h : Dg b w p n) (hn : n ≠ 0) (hg : p.ownBlock = some g) : g < w.heap.size := by
  obtain ⟨A, c, rfl, _, _, hr⟩ := h
  have : 0 < (dg b n).length := List.length_pos_iff.2 fun e => hn ((dg_eq_nil hb).1 e)
  obtain ⟨a, rfl, hc⟩ := hr 0 this
  have h1 := World.block_lt_of_cell? w _ hc
  rw [add_block] at h1
  simp [Value.ownBlock] at hg
  omega

theorem Got.push {B : Nat} {w w' : World} {v : Value} {ps : List (Bool × Value)} {zs : List Int} {b : Bool} {p : Value} {z : Int} {g cap : Nat} {o : Obj} (h : Got B w v ps zs)
    (hown : w'.ownsRow B 136 2 (.slice (some ⟨g, 0, none⟩) (ps.length + 1) cap) (ps.length + 1) (whCells ps ++ [.bool b, p])) (hgrow : (w.alloc o).grownBy w' v.ownBlock) (hg : v.ownBlock = some g ∨ g = (w.alloc o).heap.size)
    (hb : b = decide (z < 0)) (hd : Dg 1000000000 w p z.natAbs) (hp : z = 0 ∨ ∀ g', p.ownBlock = some g' → g' < w.heap.size ∧ v.ownBlock ≠ some g') : Got B w' (.slice (some ⟨g, 0, none⟩) (ps.length + 1) cap) (ps ++ [(b, p)]) (zs ++ [z]) := by
  have hsz : w.heap.size ≤ w'.heap.size := Nat.le_trans (by simp) hgrow.size
  have same : ∀ (q : Value) (x : Int), Dg 1000000000 w q x.natAbs → (x = 0 ∨ ∀ g', q.ownBlock = some g' → g' < w.heap.size ∧ v.ownBlock ≠ some g') → Dg 1000000000 w' q x.natAbs ∧ (x = 0 ∨ ∀ g', q.ownBlock = some g' → g' < w'.heap.size ∧ (Value.slice (some ⟨g, 0, none⟩) (ps.length + 1) cap).ownBlock ≠ some g') := by
    intro q x hq hf
    rcases hf with h0 | hf
    · subst h0; exact ⟨dg_any hq, .inl rfl⟩
    refine ⟨?_, .inr ?_⟩
    rotate_left
    · intro g' hg'
      obtain ⟨h1, h2⟩ := hf g' hg'
      refine ⟨by omega, fun e => ?_⟩
      have e' : g = g' := by simpa [Value.ownBlock] using e
      subst e'
      rcases hg with hg | hg
      · exact h2 hg
      · simp at hg; omega
    refine (hq.same fun g' hg' => ?_)
    obtain ⟨h1, h2⟩ := hf g' hg'
    rw [hgrow.block g' (by simp; omega) (fun e => h2 e.symm), Below.heap_alloc w o g' h1]
  refine ⟨?_, by simp [h.len], fun j b' p' hj => ?_⟩
  · rw [whCells_append, List.length_append, List.length_singleton]; exact hown
  · rcases Nat.lt_or_ge j ps.length with hlt | hge
    · rw [List.getElem?_append_left hlt] at hj
      obtain ⟨h1, h2, h3⟩ := h.at_ j b' p' hj
      have hlt' : j < zs.length := by rw [← h.len]; exact hlt
      rw [List.getElem?_append_left hlt']
      exact ⟨h1, same p' _ h2 h3⟩
    · rw [List.getElem?_append_right hge] at hj
      have hj0 : j - ps.length = 0 := by
        rcases Nat.eq_zero_or_pos (j - ps.length) with e | e
        · exact e
        · rw [List.getElem?_eq_none (by simp; omega)] at hj; cases hj
      rw [hj0] at hj
      simp at hj
      obtain ⟨rfl, rfl⟩ := hj
      rw [List.getElem?_append_right (by rw [← h.len]; exact hge), ← h.len, hj0]
      exact ⟨hb, same _ _ hd hp⟩


theorem got_more {B : Nat} {w0 w w' : World} {v : Value} {ps : List (Bool × Value)} {zs : List Int} {b : Bool} {p : Value} {z : Int} {g cap : Nat} {o : Obj} (h0 : Got B w0 v ps zs) (h : Got B w v ps zs)
    (hown : w'.ownsRow B 136 2 (.slice (some ⟨g, 0, none⟩) (ps.length + 1) cap) (ps.length + 1) (whCells ps ++ [.bool b, p])) (hgrow : (w.alloc o).grownBy w' v.ownBlock) (hg : v.ownBlock = some g ∨ g = (w.alloc o).heap.size)
    (hb : b = decide (z < 0)) (hd : Dg 1000000000 w p z.natAbs) (hf : FromB w0.heap.size p) : Got B w' (.slice (some ⟨g, 0, none⟩) (ps.length + 1) cap) (ps ++ [(b, p)]) (zs ++ [z]) := by
  refine h.push hown hgrow hg hb hd ?_
  by_cases h1 : z = 0
  · exact .inl h1
  · refine .inr fun g' hg' => ⟨dg_block (by decide) hd (by omega) hg', fun e => ?_⟩
    have h2 := hf g' hg'
    have h3 := (h0.own.lt g' e).2
    omega

theorem read_ok (S : ByteArray) (w : World) (z : Int) (h : NumL S.data.toList z) : Calls Tryz.prog 188 #[.string S] w (WhPN z w) := by
  refine (read_c S w).mono ?_
  rintro e w' (⟨z', hz', hp⟩ | ⟨hn, _⟩)
  · have : z' = z := itoa_inj (hz'.1.symm.trans h.1)
    subst this; exact hp
  · exact absurd ⟨z, h⟩ hn
theorem read_bad (S : ByteArray) (w : World) (h : ¬ ∃ z, NumL S.data.toList z) : Calls Tryz.prog 188 #[.string S] w fun e w' => e = .panicked (failChain 1) ∧ Below w.heap.size w w' := by
  refine (read_c S w).mono ?_
  rintro e w' (⟨z', hz', hp⟩ | ⟨_, h1, h2⟩)
  · exact absurd ⟨z', hz'⟩ h
  · exact ⟨h1, h2⟩
theorem info_whole : (Tryz.prog.info? 136).map (fun i => (i.zero, i.size, i.bytes)) = some (some (.agg #[.bool false, .slice none 0 0]), 2, 32) := by kernel_rfl

theorem wp_push {ops : Array Oper} {rest : List Oper} {op : Oper} {a : Act} {Q : Exit → Act → World → Prop} (hgd : op.guard = none) (s x : Operand)
    (ho : op.op = .call { callee := .builtin .append, args := #[s, x], argTypes := #[133, 133] })
    {B : Nat} {w0 W : World} {v : Value} {ps : List (Bool × Value)} {zs : List Int} {bz : Bool} {p : Value} {z : Int} (hs : a.eval s = v) (h0 : Got B w0 v ps zs) (h : Got B W v ps zs)
    (hx : a.eval x = .slice (some ⟨W.heap.size, 0, none⟩) 1 1) (hps : ps.length ≤ 10) (hB : B ≤ W.heap.size) (hb : bz = decide (z < 0)) (hd : Dg 1000000000 W p z.natAbs) (hf : FromB w0.heap.size p) (hp1 : p.oneCell' = true)
    (hK : ∀ v' w', Got B w' v' (ps ++ [(bz, p)]) (zs ++ [z]) → (W.alloc (.cells #[.bool bz, p] 136)).grownBy w' v.ownBlock → (∃ g cap, v' = .slice (some ⟨g, 0, none⟩) (ps.length + 1) cap) → wpList Tryz.prog ops Q rest (a.put op.dst v') w') :
    wpList Tryz.prog ops Q (op :: rest) a (W.alloc (.cells #[.bool bz, p] 136)) := by
  obtain ⟨i0, hi, hz0, hz1, hz2⟩ := info_parts info_whole
  refine wpList_append_lies _ hgd s x 133 ho B 136 i0 (.agg #[.bool false, .slice none 0 0]) 2 32 Tryz.underlying133 hi hz0 hz1 hz2 rfl (by decide) v ps.length (whCells ps) hs (h.own.alloc _) ⟨W.heap.size, 0, none⟩ 1 1 [.bool bz, p] hx rfl
    (World.news_of_block (heap_alloc_new _ _)) ?_ (by decide) (by unfold maxLen; omega) (by omega) (by simp; omega) _ rfl ?_
  · intro u hu
    simp at hu
    rcases hu with rfl | rfl
    · rfl
    · exact hp1
  · intro g cap w' hown hgrow hg _
    exact hK _ _ (got_more h0 h hown hgrow hg hb hd hf) hgrow ⟨g, cap, rfl⟩

/-- What with returns. -/
def WithP (l : List ByteArray) (o : List Int → Out) (z : Value) (w : World) (e : Ending) (w' : World) : Prop :=
  ((∃ zs, AllNum l zs ∧ e = .returned ((o zs).res z)) ∨ ((¬ ∃ zs, AllNum l zs) ∧ e = .returned (.tuple #[z, .int .i64 1]))) ∧ Below w.heap.size w w'

set_option maxRecDepth 100000 in
set_option maxHeartbeats 2000000 in
theorem withStr_c (g : Nat) (lb : Array Value) (eg : ∀ args w, (callFunc g args).run Tryz.prog w = .ok (.enter g args) w) (v : Value) (l : List ByteArray) (o : List Int → Out) (w : World) (hl : Strs w v l) (hlen : l.length ≤ 10)
    (hf : ∀ zs, AllNum l zs → ∀ W lv, Below w.heap.size w W → Whs W lv zs → Calls Tryz.prog g (#[lv] ++ lb) W fun e w' => e = (o zs).end_ ∧ Below W.heap.size W w') :
    Calls Tryz.prog 147 #[.func (.func g) #[] lb, v] w (WithP l o (.string ⟨#[]⟩) w) := by
  obtain ⟨A, c, rfl, hs⟩ := hl
  have HS := Lib.hid hs
  have HFN := Lib.hid hf
  clear hs hf
  go_enter_defers Tryz.func147, Tryz.ntmps147
  go_wp2_with fail
  obtain ⟨W, hW, k0, f0, hbel, hsz⟩ := boxes1 w #[.int .i64 0] 24
  rw [hW]
  have c0 : W.cell? ⟨w.heap.size, 0, none⟩ = some (.int .i64 0) := k0 0
  have f0' : W.frozen? ⟨w.heap.size, 0, none⟩ = false := f0 0
  have HBEL := Lib.hid hbel
  have HSZ : Hid (W.heap.size = w.heap.size + 1) := hsz
  clear k0 f0 hW hbel hsz
  go_wp2_with fail
  go_loopg [6, 11] l.length (fun gk lv iv wr => ∃ (i : Nat) (zs : List Int) (ps : List (Bool × Value)), iv = .int .i64 i ∧ i + gk = l.length ∧ Hid (Got (w.heap.size + 1) wr lv ps zs ∧ zs.length = i ∧ ∀ j, j < i → NumL (l[j]?.getD ⟨#[]⟩).data.toList (zs[j]?.getD 0)) ∧ wr.cell? ⟨w.heap.size, 0, none⟩ = some (.int .i64 0) ∧ wr.frozen? ⟨w.heap.size, 0, none⟩ = false ∧ Hid (Below w.heap.size w wr) ∧ Hid (w.heap.size + 1 ≤ wr.heap.size))
  case atStart => exact ⟨0, [], [], rfl, by omega, ⟨Got.nil _ _, rfl, fun j h => absurd h (by omega)⟩, c0, f0', HBEL.out.to, by show _ ≤ _; rw [HSZ.out]; exact Nat.le_refl _⟩
  case round =>
    obtain ⟨i, zs, ps, rfl, hg, HG, b0, b1, HB, HZ⟩ := hrel
    clear c0 f0'
    have HFAR : Hid (some w.heap.size ≠ u6.ownBlock) := fun e => by have := (HG.out.1.own.lt _ e.symm).1; omega
    by_cases hlt : i < l.length
    · obtain ⟨a, rfl, hc⟩ := HS.out i hlt
      have hc2 := keep_cell HB.out hc
      obtain ⟨S, hS⟩ : ∃ S, l[i]?.getD ⟨#[]⟩ = S := ⟨_, rfl⟩
      rw [hS] at hc2
      have HSE := Lib.hid hS
      clear hc hS
      by_cases hv : ∃ z, NumL S.data.toList z
      · obtain ⟨z, hz⟩ := hv
        have HZN := Lib.hid hz
        have HGK := Lib.hid hg
        have hpl : ps.length ≤ 10 := by have h1 := HG.out.1.len; have h2 := HG.out.2.1; omega
        clear hz hg
        go_wp2_with (first | (go_at_call 188; refine (read_ok S _ z HZN.out).mono ?_; rintro e W2 ⟨u, rfl, ⟨p, rfl, hd, hfr⟩, hbz⟩; have HD := Lib.hid hd; have HFR := Lib.hid hfr; obtain ⟨A6, n6, c6, rfl⟩ := hd.form; obtain ⟨bz, hbzz⟩ : ∃ bz, decide (z < 0) = bz := ⟨_, rfl⟩; rw [hbzz]; have HBZ := Lib.hid hbzz; have b1 := keep_free' hbz b0 b1; have b0 := keep_cell hbz b0; have HG2 := Lib.hid (HG.out.1.below hbz); have HB2 := Lib.hid (below_then' HB.out hbz); have HSZ2 := Lib.hid hbz.size; have HB21 := Lib.hid (Nat.le_trans HZ.out hbz.size); clear hd hfr hbzz hbz) | (at_builtin; refine wp_push rfl _ _ rfl rfl HG.out.1 HG2.out rfl hpl HB21.out HBZ.out.symm HD.out HFR.out rfl ?_; intro v' w' hg3 hgrow hform; obtain ⟨g', cap, rfl⟩ := hform; have HG3 := Lib.hid hg3; have HGR := Lib.hid hgrow; clear hg3 hgrow))
        go_roundg (gk - 1)
        case measure => have := HGK.out; omega
        case rel =>
          refine ⟨i + 1, zs ++ [z], ps ++ [(bz, .slice A6 n6 c6)], by simp, by have := HGK.out; omega, ⟨HG3.out, by rw [List.length_append, HG.out.2.1]; rfl, fun j hj => ?_⟩, ?_, ?_, ?_, ?_⟩
          · rcases Nat.lt_or_ge j i with h | h
            · rw [List.getElem?_append_left (by rw [HG.out.2.1]; exact h)]; exact HG.out.2.2 j h
            · obtain rfl : j = i := by omega
              rw [List.getElem?_append_right (by rw [HG.out.2.1]; exact Nat.le_refl _), HG.out.2.1, Nat.sub_self, HSE.out]
              exact HZN.out
          · exact (HGR.out.cell_far ⟨w.heap.size, 0, none⟩ (by have := HB21.out; simp; omega) HFAR.out).trans (keep_cell ((Below.refl _ _).alloc (Nat.le_refl _) _) b0)
          · exact (HGR.out.frozen_far ⟨w.heap.size, 0, none⟩ (by have := HB21.out; simp; omega) HFAR.out).trans (keep_free' ((Below.refl _ _).alloc (Nat.le_refl _) _) b0 b1)
          · exact (HB2.out.alloc HB2.out.size _).grown HGR.out (by have := HB2.out.size; simp; omega) (fun k hk => Nat.le_of_succ_le (HG2.out.own.lt k hk).1)
          · show _ ≤ _
            have h1 := HB21.out; have h3 := HGR.out.size
            simp at h3; omega
      · have HNV := Lib.hid hv
        have HNO : Hid (¬ ∃ zs, AllNum l zs) := by
          rintro ⟨zs', h1, h2⟩
          have := h2 i hlt
          rw [HSE.out] at this
          exact hv ⟨_, this⟩
        clear hv hg
        go_wp2_with (go_at_call 188; refine (read_bad S _ HNV.out).mono ?_; rintro e W2 ⟨rfl, hbz⟩; have b1 := keep_free' hbz b0 b1; have b0 := keep_cell hbz b0; have HB2 := Lib.hid (below_then' HB.out hbz); clear hbz)
        refine leaves_cons (f := 187) (args := #[.pointer (some ⟨w.heap.size, 0, none⟩)]) (by simp) (by simp [go_sem]) ?_
        refine (guard_panic ⟨w.heap.size, 0, none⟩ 1 (.int .i64 0) _ b0 b1).mono ?_
        rintro e u' w'' ⟨rfl, rfl, rfl⟩
        have r0 := set_same (.int .i64 1) (keep_cell ((Below.refl _ W2).alloc (Nat.le_refl _) (.cells #[.int .i64 1] 198)) b0)
        simp [Leaves, settle, results, Tryz.results147, go_sem, r0]
        exact ⟨.inr ⟨HNO.out, rfl⟩, (HB2.out.alloc HB2.out.size _).setCell (p := ⟨w.heap.size, 0, none⟩) (Nat.le_refl _) _⟩
    · obtain rfl : i = l.length := by omega
      have HAN : Hid (AllNum l zs) := ⟨HG.out.2.1.symm, HG.out.2.2⟩
      have hcc := HFN.out zs HAN.out wr u6 HB.out HG.out.1.whs
      cases ho : o zs with
      | ok r =>
        have HOO := Lib.hid ho
        rw [ho] at hcc
        have HC : Hid (Calls Tryz.prog g (#[u6] ++ lb) wr fun e w' => e = .returned r ∧ Below wr.heap.size wr w') := hcc
        clear ho hg hlt hcc
        go_wp2_with (go_at_fn g; refine HC.out.mono ?_; rintro e W2 ⟨rfl, hbz⟩; have b1 := keep_free' hbz b0 b1; have b0 := keep_cell hbz b0; have HB2 := Lib.hid (below_then' HB.out hbz); clear hbz)
        refine leaves_cons (f := 187) (args := #[.pointer (some ⟨w.heap.size, 0, none⟩)]) (by simp) (by simp [go_sem]) ?_
        refine (guard_idle ⟨w.heap.size, 0, none⟩ _).mono ?_
        rintro e u' w'' ⟨rfl, rfl, rfl⟩
        have r0 := set_same (.int .i64 0) b0
        simp [Leaves, settle, results, Tryz.results147, go_sem, r0]
        exact ⟨.inl ⟨zs, HAN.out, by rw [HOO.out]; rfl⟩, HB2.out.setCell (p := ⟨w.heap.size, 0, none⟩) (Nat.le_refl _) _⟩
      | err k =>
        have HOO := Lib.hid ho
        rw [ho] at hcc
        have HC : Hid (Calls Tryz.prog g (#[u6] ++ lb) wr fun e w' => e = .panicked (failChain k) ∧ Below wr.heap.size wr w') := hcc
        clear ho hg hlt hcc
        go_wp2_with (go_at_fn g; refine HC.out.mono ?_; rintro e W2 ⟨rfl, hbz⟩; have b1 := keep_free' hbz b0 b1; have b0 := keep_cell hbz b0; have HB2 := Lib.hid (below_then' HB.out hbz); clear hbz)
        refine leaves_cons (f := 187) (args := #[.pointer (some ⟨w.heap.size, 0, none⟩)]) (by simp) (by simp [go_sem]) ?_
        refine (guard_panic ⟨w.heap.size, 0, none⟩ k (.int .i64 0) _ b0 b1).mono ?_
        rintro e u' w'' ⟨rfl, rfl, rfl⟩
        have r0 := set_same (.int .i64 k) (keep_cell ((Below.refl _ W2).alloc (Nat.le_refl _) (.cells #[.int .i64 k] 198)) b0)
        simp [Leaves, settle, results, Tryz.results147, go_sem, r0]
        exact ⟨.inl ⟨zs, HAN.out, by rw [HOO.out]; rfl⟩, (HB2.out.alloc HB2.out.size _).setCell (p := ⟨w.heap.size, 0, none⟩) (Nat.le_refl _) _⟩

end Go.Proofs.YtekbfommnmikbaaGreatDoor

namespace Go.Proofs.YtekbfommnmikbaaGreatDoor
set_option linter.unusedVariables false
set_option linter.unusedSimpArgs false
open Go.RowKit Go.Shelf Go.Proofs

set_option maxRecDepth 100000 in
set_option maxHeartbeats 2000000 in
theorem withInt_c (g : Nat) (lb : Array Value) (eg : ∀ args w, (callFunc g args).run Tryz.prog w = .ok (.enter g args) w) (v : Value) (l : List ByteArray) (o : List Int → Out) (w : World) (hl : Strs w v l) (hlen : l.length ≤ 10)
    (hf : ∀ zs, AllNum l zs → ∀ W lv, Below w.heap.size w W → Whs W lv zs → Calls Tryz.prog g (#[lv] ++ lb) W fun e w' => e = (o zs).end_ ∧ Below W.heap.size W w') :
    Calls Tryz.prog 140 #[.func (.func g) #[] lb, v] w (WithP l o (.int .i64 0) w) := by
  obtain ⟨A, c, rfl, hs⟩ := hl
  have HS := Lib.hid hs
  have HFN := Lib.hid hf
  clear hs hf
  go_enter_defers Tryz.func140, Tryz.ntmps140
  go_wp2_with fail
  obtain ⟨W, hW, k0, f0, hbel, hsz⟩ := boxes1 w #[.int .i64 0] 24
  rw [hW]
  have c0 : W.cell? ⟨w.heap.size, 0, none⟩ = some (.int .i64 0) := k0 0
  have f0' : W.frozen? ⟨w.heap.size, 0, none⟩ = false := f0 0
  have HBEL := Lib.hid hbel
  have HSZ : Hid (W.heap.size = w.heap.size + 1) := hsz
  clear k0 f0 hW hbel hsz
  go_wp2_with fail
  go_loopg [6, 11] l.length (fun gk lv iv wr => ∃ (i : Nat) (zs : List Int) (ps : List (Bool × Value)), iv = .int .i64 i ∧ i + gk = l.length ∧ Hid (Got (w.heap.size + 1) wr lv ps zs ∧ zs.length = i ∧ ∀ j, j < i → NumL (l[j]?.getD ⟨#[]⟩).data.toList (zs[j]?.getD 0)) ∧ wr.cell? ⟨w.heap.size, 0, none⟩ = some (.int .i64 0) ∧ wr.frozen? ⟨w.heap.size, 0, none⟩ = false ∧ Hid (Below w.heap.size w wr) ∧ Hid (w.heap.size + 1 ≤ wr.heap.size))
  case atStart => exact ⟨0, [], [], rfl, by omega, ⟨Got.nil _ _, rfl, fun j h => absurd h (by omega)⟩, c0, f0', HBEL.out.to, by show _ ≤ _; rw [HSZ.out]; exact Nat.le_refl _⟩
  case round =>
    obtain ⟨i, zs, ps, rfl, hg, HG, b0, b1, HB, HZ⟩ := hrel
    clear c0 f0'
    have HFAR : Hid (some w.heap.size ≠ u6.ownBlock) := fun e => by have := (HG.out.1.own.lt _ e.symm).1; omega
    by_cases hlt : i < l.length
    · obtain ⟨a, rfl, hc⟩ := HS.out i hlt
      have hc2 := keep_cell HB.out hc
      obtain ⟨S, hS⟩ : ∃ S, l[i]?.getD ⟨#[]⟩ = S := ⟨_, rfl⟩
      rw [hS] at hc2
      have HSE := Lib.hid hS
      clear hc hS
      by_cases hv : ∃ z, NumL S.data.toList z
      · obtain ⟨z, hz⟩ := hv
        have HZN := Lib.hid hz
        have HGK := Lib.hid hg
        have hpl : ps.length ≤ 10 := by have h1 := HG.out.1.len; have h2 := HG.out.2.1; omega
        clear hz hg
        go_wp2_with (first | (go_at_call 188; refine (read_ok S _ z HZN.out).mono ?_; rintro e W2 ⟨u, rfl, ⟨p, rfl, hd, hfr⟩, hbz⟩; have HD := Lib.hid hd; have HFR := Lib.hid hfr; obtain ⟨A6, n6, c6, rfl⟩ := hd.form; obtain ⟨bz, hbzz⟩ : ∃ bz, decide (z < 0) = bz := ⟨_, rfl⟩; rw [hbzz]; have HBZ := Lib.hid hbzz; have b1 := keep_free' hbz b0 b1; have b0 := keep_cell hbz b0; have HG2 := Lib.hid (HG.out.1.below hbz); have HB2 := Lib.hid (below_then' HB.out hbz); have HSZ2 := Lib.hid hbz.size; have HB21 := Lib.hid (Nat.le_trans HZ.out hbz.size); clear hd hfr hbzz hbz) | (at_builtin; refine wp_push rfl _ _ rfl rfl HG.out.1 HG2.out rfl hpl HB21.out HBZ.out.symm HD.out HFR.out rfl ?_; intro v' w' hg3 hgrow hform; obtain ⟨g', cap, rfl⟩ := hform; have HG3 := Lib.hid hg3; have HGR := Lib.hid hgrow; clear hg3 hgrow))
        go_roundg (gk - 1)
        case measure => have := HGK.out; omega
        case rel =>
          refine ⟨i + 1, zs ++ [z], ps ++ [(bz, .slice A6 n6 c6)], by simp, by have := HGK.out; omega, ⟨HG3.out, by rw [List.length_append, HG.out.2.1]; rfl, fun j hj => ?_⟩, ?_, ?_, ?_, ?_⟩
          · rcases Nat.lt_or_ge j i with h | h
            · rw [List.getElem?_append_left (by rw [HG.out.2.1]; exact h)]; exact HG.out.2.2 j h
            · obtain rfl : j = i := by omega
              rw [List.getElem?_append_right (by rw [HG.out.2.1]; exact Nat.le_refl _), HG.out.2.1, Nat.sub_self, HSE.out]
              exact HZN.out
          · exact (HGR.out.cell_far ⟨w.heap.size, 0, none⟩ (by have := HB21.out; simp; omega) HFAR.out).trans (keep_cell ((Below.refl _ _).alloc (Nat.le_refl _) _) b0)
          · exact (HGR.out.frozen_far ⟨w.heap.size, 0, none⟩ (by have := HB21.out; simp; omega) HFAR.out).trans (keep_free' ((Below.refl _ _).alloc (Nat.le_refl _) _) b0 b1)
          · exact (HB2.out.alloc HB2.out.size _).grown HGR.out (by have := HB2.out.size; simp; omega) (fun k hk => Nat.le_of_succ_le (HG2.out.own.lt k hk).1)
          · show _ ≤ _
            have h1 := HB21.out; have h3 := HGR.out.size
            simp at h3; omega
      · have HNV := Lib.hid hv
        have HNO : Hid (¬ ∃ zs, AllNum l zs) := by
          rintro ⟨zs', h1, h2⟩
          have := h2 i hlt
          rw [HSE.out] at this
          exact hv ⟨_, this⟩
        clear hv hg
        go_wp2_with (go_at_call 188; refine (read_bad S _ HNV.out).mono ?_; rintro e W2 ⟨rfl, hbz⟩; have b1 := keep_free' hbz b0 b1; have b0 := keep_cell hbz b0; have HB2 := Lib.hid (below_then' HB.out hbz); clear hbz)
        refine leaves_cons (f := 187) (args := #[.pointer (some ⟨w.heap.size, 0, none⟩)]) (by simp) (by simp [go_sem]) ?_
        refine (guard_panic ⟨w.heap.size, 0, none⟩ 1 (.int .i64 0) _ b0 b1).mono ?_
        rintro e u' w'' ⟨rfl, rfl, rfl⟩
        have r0 := set_same (.int .i64 1) (keep_cell ((Below.refl _ W2).alloc (Nat.le_refl _) (.cells #[.int .i64 1] 198)) b0)
        simp [Leaves, settle, results, Tryz.results140, go_sem, r0]
        exact ⟨.inr ⟨HNO.out, rfl⟩, (HB2.out.alloc HB2.out.size _).setCell (p := ⟨w.heap.size, 0, none⟩) (Nat.le_refl _) _⟩
    · obtain rfl : i = l.length := by omega
      have HAN : Hid (AllNum l zs) := ⟨HG.out.2.1.symm, HG.out.2.2⟩
      have hcc := HFN.out zs HAN.out wr u6 HB.out HG.out.1.whs
      cases ho : o zs with
      | ok r =>
        have HOO := Lib.hid ho
        rw [ho] at hcc
        have HC : Hid (Calls Tryz.prog g (#[u6] ++ lb) wr fun e w' => e = .returned r ∧ Below wr.heap.size wr w') := hcc
        clear ho hg hlt hcc
        go_wp2_with (go_at_fn g; refine HC.out.mono ?_; rintro e W2 ⟨rfl, hbz⟩; have b1 := keep_free' hbz b0 b1; have b0 := keep_cell hbz b0; have HB2 := Lib.hid (below_then' HB.out hbz); clear hbz)
        refine leaves_cons (f := 187) (args := #[.pointer (some ⟨w.heap.size, 0, none⟩)]) (by simp) (by simp [go_sem]) ?_
        refine (guard_idle ⟨w.heap.size, 0, none⟩ _).mono ?_
        rintro e u' w'' ⟨rfl, rfl, rfl⟩
        have r0 := set_same (.int .i64 0) b0
        simp [Leaves, settle, results, Tryz.results140, go_sem, r0]
        exact ⟨.inl ⟨zs, HAN.out, by rw [HOO.out]; rfl⟩, HB2.out.setCell (p := ⟨w.heap.size, 0, none⟩) (Nat.le_refl _) _⟩
      | err k =>
        have HOO := Lib.hid ho
        rw [ho] at hcc
        have HC : Hid (Calls Tryz.prog g (#[u6] ++ lb) wr fun e w' => e = .panicked (failChain k) ∧ Below wr.heap.size wr w') := hcc
        clear ho hg hlt hcc
        go_wp2_with (go_at_fn g; refine HC.out.mono ?_; rintro e W2 ⟨rfl, hbz⟩; have b1 := keep_free' hbz b0 b1; have b0 := keep_cell hbz b0; have HB2 := Lib.hid (below_then' HB.out hbz); clear hbz)
        refine leaves_cons (f := 187) (args := #[.pointer (some ⟨w.heap.size, 0, none⟩)]) (by simp) (by simp [go_sem]) ?_
        refine (guard_panic ⟨w.heap.size, 0, none⟩ k (.int .i64 0) _ b0 b1).mono ?_
        rintro e u' w'' ⟨rfl, rfl, rfl⟩
        have r0 := set_same (.int .i64 k) (keep_cell ((Below.refl _ W2).alloc (Nat.le_refl _) (.cells #[.int .i64 k] 198)) b0)
        simp [Leaves, settle, results, Tryz.results140, go_sem, r0]
        exact ⟨.inl ⟨zs, HAN.out, by rw [HOO.out]; rfl⟩, (HB2.out.alloc HB2.out.size _).setCell (p := ⟨w.heap.size, 0, none⟩) (Nat.le_refl _) _⟩

end Go.Proofs.YtekbfommnmikbaaGreatDoor

namespace Go.Proofs.YtekbfommnmikbaaGreatDoor
set_option linter.unusedVariables false
set_option linter.unusedSimpArgs false
open Go.RowKit Go.Shelf Go.Proofs

/-- What text makes of an integer. -/
def textOut (x : Int) : Out := if x.natAbs < 10 ^ 200 then .ok (.string ⟨(Lib.itoa x).toArray⟩) else .err 3
theorem textOut_end (x : Int) : (textOut x).end_ = textEnd x := by
  unfold textOut textEnd
  split <;> rfl

theorem len23 {n : Nat} (h : n < 10 ^ 200) : (dg 1000000000 n).length ≤ 23 := by
  refine (dg_length_le (by decide) _ _).2 (Nat.lt_of_lt_of_le h ?_)
  rw [show (1000000000 : Nat) = 10 ^ 9 from rfl, ← Nat.pow_mul]
  exact Nat.pow_le_pow_right (by decide) (by decide)

theorem text_out (v1 : Value) (x : Int) (w : World) (h1 : Wh w v1 x) (ht : Tabs w) (hl : (dg 1000000000 x.natAbs).length ≤ 1000000) : Calls Tryz.prog 149 #[v1] w fun e w' => e = (textOut x).end_ ∧ Below w.heap.size w w' := by
  rw [textOut_end]; exact text_c v1 x w h1 ht hl

/-- The first whole of a list. -/
theorem Whs.first {w : World} {v : Value} {x : Int} {zs : List Int} (h : Whs w v (x :: zs)) : ∃ a c p, v = .slice (some ⟨a, 0, none⟩) (zs.length + 1) c ∧ w.cell? ⟨a, 0, none⟩ = some (.bool (decide (x < 0))) ∧ w.cell? ⟨a, 1, none⟩ = some p ∧ Dg 1000000000 w p x.natAbs := by
  obtain ⟨A, c, e, h⟩ := h
  obtain ⟨a, p, rfl, h1, h2, h3⟩ := h 0 (by simp)
  exact ⟨a, c, p, e, h1, h2, h3⟩

/-- What a function of one string returns. -/
def Un (S : ByteArray) (f : Int → Out) (z : Value) (w : World) (e : Ending) (w' : World) : Prop :=
  ((∃ x, NumL S.data.toList x ∧ e = .returned ((f x).res z)) ∨ ((¬ ∃ x, NumL S.data.toList x) ∧ e = .returned (.tuple #[z, .int .i64 1]))) ∧ Below w.heap.size w w'

theorem Out.res_form (o : Out) (z : Value) : ∃ a b, o.res z = .tuple #[a, b] := by
  cases o
  · exact ⟨_, _, rfl⟩
  · exact ⟨_, _, rfl⟩

theorem with_one {S : ByteArray} {f : Int → Out} {z : Value} {w w1 : World} {e : Ending} {w' : World} (h : WithP [S] (fun zs => f (zs.headD 0)) z w1 e w') (hb : Below w.heap.size w w1) : ∃ a b, e = .returned (.tuple #[a, b]) ∧ Un S f z w (.returned (.tuple #[a, b])) w' := by
  obtain ⟨h, hb2⟩ := h
  have hbb := below_then' hb hb2
  rcases h with ⟨zs, ⟨hl, ha⟩, rfl⟩ | ⟨hn, rfl⟩
  · obtain ⟨a, b, e⟩ := Out.res_form (f (zs.headD 0)) z
    refine ⟨a, b, by rw [e], .inl ⟨zs.headD 0, ?_, by rw [e]⟩, hbb⟩
    have h0 := ha 0 (by simp)
    cases zs with
    | nil => simp at hl
    | cons y zs => simpa using h0
  · refine ⟨_, _, rfl, .inr ⟨?_, rfl⟩, hbb⟩
    rintro ⟨x, hx⟩
    exact hn ⟨[x], rfl, fun j hj => by
      have : j = 0 := by simpa using hj
      subst this
      simpa using hx⟩

/-- One string in a slice of its own. -/
theorem strs_one (w : World) (S : ByteArray) (t : TypeId) : Strs (w.alloc (.cells #[.string S] t)) (.slice (some ⟨w.heap.size, 0, none⟩) 1 1) [S] := by
  refine ⟨_, _, rfl, fun j hj => ?_⟩
  have : j = 0 := by simpa using hj
  subst this
  exact ⟨_, rfl, by rw [add_lit]; exact new_cell _ _ _ _⟩

theorem one_zs {S : ByteArray} {zs : List Int} (h : AllNum [S] zs) : ∃ x, zs = [x] ∧ NumL S.data.toList x := by
  obtain ⟨hl, ha⟩ := h
  match zs, hl with
  | [x], _ => exact ⟨x, rfl, by simpa using ha 0 (by simp)⟩

set_option maxHeartbeats 1000000 in
theorem abs1_c (lv : Value) (x : Int) (w : World) (h : Whs w lv [x]) (ht : Tabs w) (hx : x.natAbs < 10 ^ 200) :
    Calls Tryz.prog 195 #[lv] w fun e w' => e = (textOut (x.natAbs : Int)).end_ ∧ Below w.heap.size w w' := by
  obtain ⟨a, c, p, rfl, c0, c1, hd⟩ := h.first
  have HT := Lib.hid ht
  have hw : Wh w (.agg #[.bool (decide (x < 0)), p]) x := ⟨p, rfl, hd⟩
  have HW := Lib.hid hw
  have HDD := Lib.hid hd
  obtain ⟨A6, n6, c6, rfl⟩ := hd.form
  have HL : Hid ((dg 1000000000 (x.natAbs : Int).natAbs).length ≤ 1000000) := by show _ ≤ _; rw [Int.natAbs_natCast]; exact Nat.le_trans (len23 hx) (by decide)
  generalize hb : decide (x < 0) = bx at *
  clear h ht hw hd hb hx
  have hout : ∃ o, textOut (x.natAbs : Int) = o := ⟨_, rfl⟩
  obtain ⟨o, ho⟩ := hout
  have HO := Lib.hid ho
  rw [ho]
  clear ho
  cases o with
  | ok r =>
    go_enter Tryz.func195, Tryz.ntmps195
    go_wp2_with (first
      | (go_at_call 189; refine (made_c false _ x.natAbs _ HDD.out).mono ?_; rintro e W2 ⟨rfl, hbz⟩; have HU : Hid (Wh W2 (.agg #[.bool (false && decide (0 < x.natAbs)), .slice A6 n6 c6]) (x.natAbs : Int)) := ⟨_, by rw [decide_eq_false (by omega : ¬ (x.natAbs : Int) < 0)]; rfl, by rw [Int.natAbs_natCast]; exact HDD.out.below hbz⟩; have HB := Lib.hid hbz; clear hbz)
      | (go_at_call 149; refine (text_out _ (x.natAbs : Int) _ HU.out (HT.out.below HB.out) HL.out).mono ?_; rw [HO.out]; rintro e W3 ⟨he, hbz⟩; have he2 : e = .returned r := he; subst he2; have HB2 := Lib.hid (below_then' HB.out hbz); clear he hbz))
    go_ret
    exact ⟨rfl, HB2.out⟩
  | err k =>
    go_enter Tryz.func195, Tryz.ntmps195
    go_wp2_with (first
      | (go_at_call 189; refine (made_c false _ x.natAbs _ HDD.out).mono ?_; rintro e W2 ⟨rfl, hbz⟩; have HU : Hid (Wh W2 (.agg #[.bool (false && decide (0 < x.natAbs)), .slice A6 n6 c6]) (x.natAbs : Int)) := ⟨_, by rw [decide_eq_false (by omega : ¬ (x.natAbs : Int) < 0)]; rfl, by rw [Int.natAbs_natCast]; exact HDD.out.below hbz⟩; have HB := Lib.hid hbz; clear hbz)
      | (go_at_call 149; refine (text_out _ (x.natAbs : Int) _ HU.out (HT.out.below HB.out) HL.out).mono ?_; rw [HO.out]; rintro e W3 ⟨he, hbz⟩; have he2 : e = .panicked (failChain k) := he; subst he2; have HB2 := Lib.hid (below_then' HB.out hbz); clear he hbz))
    exact ⟨rfl, rfl, HB2.out⟩


set_option maxHeartbeats 1000000 in
theorem abs_c (S : ByteArray) (w : World) (ht : Tabs w) : Calls Tryz.prog 146 #[.string S] w (Un S (fun x => textOut (x.natAbs : Int)) (.string ⟨#[]⟩) w) := by
  have HT := Lib.hid ht
  clear ht
  go_enter Tryz.func146, Tryz.ntmps146
  go_wp2_with (go_at_call 147; refine (withStr_c 195 #[] (enters_of Tryz.func195 (by kernel_rfl) rfl) _ [S] (fun zs => textOut ((zs.headD 0).natAbs : Int)) _ (strs_one w S _) (by simp) ?hf).mono ?_)
  case hf =>
    intro zs hz W lv hb hw
    obtain ⟨x, rfl, hx⟩ := one_zs hz
    exact abs1_c lv x W hw (HT.out.below (Below.trans ((Below.refl w.heap.size w).alloc (Nat.le_refl _) _) (hb.mono (by simp)))) hx.2
  rintro e w' h
  obtain ⟨a, b, rfl, hr⟩ := with_one (f := fun x => textOut (x.natAbs : Int)) h ((Below.refl w.heap.size w).alloc (Nat.le_refl _) _)
  have HR := Lib.hid hr
  clear h hr
  go_wp2
  go_ret2
  exact HR.out

end Go.Proofs.YtekbfommnmikbaaGreatDoor

namespace Go.Proofs.YtekbfommnmikbaaGreatDoor
set_option linter.unusedVariables false
set_option linter.unusedSimpArgs false
open Go.RowKit Go.Shelf Go.Proofs

/-- What a function of two strings returns. -/
def Bi (S T : ByteArray) (f : Int → Int → Out) (z : Value) (w : World) (e : Ending) (w' : World) : Prop :=
  ((∃ x y, NumL S.data.toList x ∧ NumL T.data.toList y ∧ e = .returned ((f x y).res z)) ∨ ((¬ ((∃ x, NumL S.data.toList x) ∧ ∃ y, NumL T.data.toList y)) ∧ e = .returned (.tuple #[z, .int .i64 1]))) ∧ Below w.heap.size w w'

theorem two_zs {S T : ByteArray} {zs : List Int} (h : AllNum [S, T] zs) : ∃ x y, zs = [x, y] ∧ NumL S.data.toList x ∧ NumL T.data.toList y := by
  obtain ⟨hl, ha⟩ := h
  match zs, hl with
  | [x, y], _ => exact ⟨x, y, rfl, by simpa using ha 0 (by simp), by simpa using ha 1 (by simp)⟩

theorem with_two {S T : ByteArray} {f : Int → Int → Out} {z : Value} {w w1 : World} {e : Ending} {w' : World} (h : WithP [S, T] (fun zs => f (zs.headD 0) (zs.getD 1 0)) z w1 e w') (hb : Below w.heap.size w w1) : ∃ a b, e = .returned (.tuple #[a, b]) ∧ Bi S T f z w (.returned (.tuple #[a, b])) w' := by
  obtain ⟨h, hb2⟩ := h
  have hbb := below_then' hb hb2
  rcases h with ⟨zs, hz, rfl⟩ | ⟨hn, rfl⟩
  · obtain ⟨x, y, rfl, hx, hy⟩ := two_zs hz
    obtain ⟨a, b, e⟩ := Out.res_form (f x y) z
    exact ⟨a, b, by simp [e], .inl ⟨x, y, hx, hy, by rw [e]⟩, hbb⟩
  · refine ⟨_, _, rfl, .inr ⟨?_, rfl⟩, hbb⟩
    rintro ⟨⟨x, hx⟩, y, hy⟩
    refine hn ⟨[x, y], rfl, fun j hj => ?_⟩
    match j, hj with
    | 0, _ => simpa using hx
    | 1, _ => simpa using hy

theorem strs_two (w : World) (S T : ByteArray) (t : TypeId) : Strs (w.alloc (.cells #[.string S, .string T] t)) (.slice (some ⟨w.heap.size, 0, none⟩) 2 2) [S, T] := by
  refine ⟨_, _, rfl, fun j hj => ?_⟩
  match j, hj with
  | 0, _ => exact ⟨_, rfl, by rw [add_lit]; exact new_cell _ _ _ _⟩
  | 1, _ => exact ⟨_, rfl, by rw [add_lit]; exact new_cell _ _ _ _⟩

/-- The two wholes of a list. -/
theorem Whs.two {w : World} {v : Value} {x y : Int} (h : Whs w v [x, y]) : ∃ a c p q, v = .slice (some ⟨a, 0, none⟩) 2 c ∧ w.cell? ⟨a, 0, none⟩ = some (.bool (decide (x < 0))) ∧ w.cell? ⟨a, 1, none⟩ = some p ∧ Dg 1000000000 w p x.natAbs
    ∧ w.cell? ⟨a, 2, none⟩ = some (.bool (decide (y < 0))) ∧ w.cell? ⟨a, 3, none⟩ = some q ∧ Dg 1000000000 w q y.natAbs := by
  obtain ⟨A, c, e, h⟩ := h
  obtain ⟨a, p, rfl, h1, h2, h3⟩ := h 0 (by simp)
  obtain ⟨a', q, e', h4, h5, h6⟩ := h 1 (by simp)
  cases e'
  exact ⟨a, c, p, q, e, h1, h2, h3, h4, h5, h6⟩

theorem len_add {m n : Nat} (hm : m < 10 ^ 200) (hn : n < 10 ^ 200) : (dg 1000000000 (m + n)).length ≤ 23 := by
  refine (dg_length_le (by decide) _ _).2 ?_
  rw [show (1000000000 : Nat) = 10 ^ 9 from rfl, ← Nat.pow_mul]
  have h1 : (10 : Nat) ^ 201 ≤ 10 ^ (9 * 23) := Nat.pow_le_pow_right (by decide) (by decide)
  have h2 : (10 : Nat) ^ 201 = 10 ^ 200 * 10 := Nat.pow_succ ..
  omega
set_option maxHeartbeats 2000000 in
theorem add1_c (lv : Value) (x y : Int) (w : World) (h : Whs w lv [x, y]) (ht : Tabs w) (hx : x.natAbs < 10 ^ 200) (hy : y.natAbs < 10 ^ 200) :
    Calls Tryz.prog 148 #[lv] w fun e w' => e = (textOut (x + y)).end_ ∧ Below w.heap.size w w' := by
  obtain ⟨a, c, p, q, rfl, c0, c1, hp, c2, c3, hq⟩ := h.two
  have HT := Lib.hid ht
  have HX : Hid (Wh w.drew (.agg #[.bool (decide (x < 0)), p]) x) := ⟨p, rfl, hp.drew⟩
  have HY : Hid (Wh w.drew (.agg #[.bool (decide (y < 0)), q]) y) := ⟨q, rfl, hq.drew⟩
  obtain ⟨A6, n6, c6, rfl⟩ := hp.form
  obtain ⟨A7, n7, c7, rfl⟩ := hq.form
  have HLX : Hid ((dg 1000000000 x.natAbs).length ≤ 1000000) := Nat.le_trans (len23 hx) (by decide)
  have HLY : Hid ((dg 1000000000 y.natAbs).length ≤ 1000000) := Nat.le_trans (len23 hy) (by decide)
  have HL : Hid ((dg 1000000000 (x + y).natAbs).length ≤ 1000000) := Nat.le_trans (dg_length_mono (by decide) (Int.natAbs_add_le x y)) (Nat.le_trans (len_add hx hy) (by decide))
  generalize hbx : decide (x < 0) = bx at *
  generalize hby : decide (y < 0) = by_ at *
  clear h ht hp hq hbx hby hx hy
  obtain ⟨o, ho⟩ : ∃ o, textOut (x + y) = o := ⟨_, rfl⟩
  have HO := Lib.hid ho
  rw [ho]
  clear ho
  cases o with
  | ok r =>
    go_enter Tryz.func148, Tryz.ntmps148
    go_wp2_with fail
    go_region_with (first
      | (go_at_call 142; refine (add_c _ _ x y _ HX.out HY.out HLX.out HLY.out).mono ?_; rintro e W2 ⟨u, rfl, hu, hbz⟩; have HU := Lib.hid hu.wh; have HB := Lib.hid (below_then' (Below.refl w.heap.size w).drew hbz); clear hu hbz)
      | (go_at_call 149; refine (text_out _ (x + y) _ HU.out (HT.out.below HB.out) HL.out).mono ?_; rw [HO.out]; rintro e W3 ⟨he, hbz⟩; have he2 : e = .returned r := he; subst he2; have HB2 := Lib.hid (below_then' HB.out hbz); clear he hbz))
    all_goals
      go_wp2
      go_ret
      exact ⟨rfl, HB2.out⟩
  | err k =>
    go_enter Tryz.func148, Tryz.ntmps148
    go_wp2_with fail
    go_region_dies
    all_goals
      go_at_call 142
      refine (add_c _ _ x y _ HX.out HY.out HLX.out HLY.out).mono ?_
      rintro e W2 ⟨u, rfl, hu, hbz⟩
      have HU := Lib.hid hu.wh
      have HB := Lib.hid (below_then' (Below.refl w.heap.size w).drew hbz)
      clear hu hbz
      dsimp only
      apply_assumption
      refine wpAny_ready (rs := [7]) (by kernel_rfl) (by simp) ?_
      refine AllReady.cons rfl (fun K hK => ?_) AllReady.nil
      go_simp
      go_at_call 149
      refine (text_out _ (x + y) _ HU.out (HT.out.below HB.out) HL.out).mono ?_
      rw [HO.out]
      rintro e W3 ⟨he, hbz⟩
      have he2 : e = .panicked (failChain k) := he
      subst he2
      dsimp only
      first
        | exact ⟨rfl, rfl, below_then' HB.out hbz⟩
        | (apply_assumption; exact ⟨rfl, rfl, below_then' HB.out hbz⟩)

set_option maxHeartbeats 1000000 in
theorem numAdd_c (S T : ByteArray) (w : World) (ht : Tabs w) : Calls Tryz.prog 76 #[.string S, .string T] w (Bi S T (fun x y => textOut (x + y)) (.string ⟨#[]⟩) w) := by
  have HT := Lib.hid ht
  clear ht
  go_enter Tryz.func76, Tryz.ntmps76
  go_wp2_with (go_at_call 147; refine (withStr_c 148 #[] (enters_of Tryz.func148 (by kernel_rfl) rfl) _ [S, T] (fun zs => textOut (zs.headD 0 + zs.getD 1 0)) _ (strs_two w S T _) (by simp) ?hf).mono ?_)
  case hf =>
    intro zs hz W lv hb hw
    obtain ⟨x, y, rfl, hx, hy⟩ := two_zs hz
    exact add1_c lv x y W hw (HT.out.below (Below.trans ((Below.refl w.heap.size w).alloc (Nat.le_refl _) _) (hb.mono (by simp)))) hx.2 hy.2
  rintro e w' h
  obtain ⟨a, b, rfl, hr⟩ := with_two (f := fun x y => textOut (x + y)) h ((Below.refl w.heap.size w).alloc (Nat.le_refl _) _)
  have HR := Lib.hid hr
  clear h hr
  go_wp2
  go_ret2
  exact HR.out

end Go.Proofs.YtekbfommnmikbaaGreatDoor

namespace Go.Proofs.YtekbfommnmikbaaGreatDoor
set_option linter.unusedVariables false
set_option linter.unusedSimpArgs false
open Go.RowKit Go.Shelf Go.Proofs

set_option maxHeartbeats 2000000 in
theorem sub1_c (lv : Value) (x y : Int) (w : World) (h : Whs w lv [x, y]) (ht : Tabs w) (hx : x.natAbs < 10 ^ 200) (hy : y.natAbs < 10 ^ 200) :
    Calls Tryz.prog 194 #[lv] w fun e w' => e = (textOut (x + -y)).end_ ∧ Below w.heap.size w w' := by
  obtain ⟨a, c, p, q, rfl, c0, c1, hp, c2, c3, hq⟩ := h.two
  have HT := Lib.hid ht
  have HX : Hid (Wh w.drew (.agg #[.bool (decide (x < 0)), p]) x) := ⟨p, rfl, hp.drew⟩
  have HY : Hid (Wh w.drew (.agg #[.bool (decide (y < 0)), q]) y) := ⟨q, rfl, hq.drew⟩
  obtain ⟨A6, n6, c6, rfl⟩ := hp.form
  obtain ⟨A7, n7, c7, rfl⟩ := hq.form
  have HLX : Hid ((dg 1000000000 x.natAbs).length ≤ 1000000) := Nat.le_trans (len23 hx) (by decide)
  have HLY : Hid ((dg 1000000000 (-y).natAbs).length ≤ 1000000) := by show _ ≤ _; rw [Int.natAbs_neg]; exact Nat.le_trans (len23 hy) (by decide)
  have HL : Hid ((dg 1000000000 (x + -y).natAbs).length ≤ 1000000) := Nat.le_trans (dg_length_mono (by decide) (Int.natAbs_add_le x (-y))) (by rw [Int.natAbs_neg]; exact Nat.le_trans (len_add hx hy) (by decide))
  have HC0 : Hid (w.drew.cell? ⟨a, 0, none⟩ = some (.bool (decide (x < 0)))) := c0
  have HC1 : Hid (w.drew.cell? ⟨a, 1, none⟩ = some (.slice A6 n6 c6)) := c1
  generalize hbx : decide (x < 0) = bx at *
  generalize hby : decide (y < 0) = by_ at *
  clear h ht hp hq hbx hby hx hy
  obtain ⟨o, ho⟩ : ∃ o, textOut (x + -y) = o := ⟨_, rfl⟩
  have HO := Lib.hid ho
  rw [ho]
  clear ho
  cases o with
  | ok r =>
    go_enter Tryz.func194, Tryz.ntmps194
    go_wp2_with fail
    go_region_with (first
      | (go_at_call 143; refine (negative_c _ y _ HY.out).mono ?_; rintro e W1 ⟨t, rfl, hu, hbz⟩; have HM := Lib.hid hu; have HX1 := Lib.hid (HX.out.below hbz); have k0 := keep_cell hbz HC0.out; have k1 := keep_cell hbz HC1.out; have HB0 := Lib.hid (below_then' (Below.refl w.heap.size w).drew hbz); clear hu hbz)
      | (go_at_call 142; refine (add_c _ _ x (-y) _ HX1.out HM.out HLX.out HLY.out).mono ?_; rintro e W2 ⟨u, rfl, hu, hbz⟩; have HU := Lib.hid hu.wh; have HB := Lib.hid (below_then' HB0.out hbz); clear hu hbz)
      | (go_at_call 149; refine (text_out _ (x + -y) _ HU.out (HT.out.below HB.out) HL.out).mono ?_; rw [HO.out]; rintro e W3 ⟨he, hbz⟩; have he2 : e = .returned r := he; subst he2; have HB2 := Lib.hid (below_then' HB.out hbz); clear he hbz))
    all_goals
      go_wp2
      go_ret
      exact ⟨rfl, HB2.out⟩
  | err k =>
    go_enter Tryz.func194, Tryz.ntmps194
    go_wp2_with fail
    go_region_dies
    all_goals
      go_at_call 143
      refine (negative_c _ y _ HY.out).mono ?_
      rintro e W1 ⟨t, rfl, hu, hbz⟩
      have HM := Lib.hid hu
      have HX1 := Lib.hid (HX.out.below hbz)
      have k0 := keep_cell hbz HC0.out
      have k1 := keep_cell hbz HC1.out
      have HB0 := Lib.hid (below_then' (Below.refl w.heap.size w).drew hbz)
      clear hu hbz
      dsimp only
      apply_assumption
      try
        refine wpAny_ready (rs := [2]) (by decide +kernel) (by simp) ?_
        refine AllReady.cons rfl (fun K hK => ?_) AllReady.nil
        go_simp
        apply_assumption
      refine wpAny_ready (rs := [7]) (by kernel_rfl) (by simp) ?_
      refine AllReady.cons rfl (fun K hK => ?_) AllReady.nil
      go_simp
      go_at_call 142
      refine (add_c _ _ x (-y) _ HX1.out HM.out HLX.out HLY.out).mono ?_
      rintro e W2 ⟨u, rfl, hu, hbz⟩
      have HU := Lib.hid hu.wh
      have HB := Lib.hid (below_then' HB0.out hbz)
      clear hu hbz
      dsimp only
      apply_assumption
      refine wpAny_ready (rs := [8]) (by kernel_rfl) (by simp) ?_
      refine AllReady.cons rfl (fun K hK => ?_) AllReady.nil
      go_simp
      go_at_call 149
      refine (text_out _ (x + -y) _ HU.out (HT.out.below HB.out) HL.out).mono ?_
      rw [HO.out]
      rintro e W3 ⟨he, hbz⟩
      have he2 : e = .panicked (failChain k) := he
      subst he2
      dsimp only
      first
        | exact ⟨rfl, rfl, below_then' HB.out hbz⟩
        | (apply_assumption; exact ⟨rfl, rfl, below_then' HB.out hbz⟩)

set_option maxHeartbeats 1000000 in
theorem numSub_c (S T : ByteArray) (w : World) (ht : Tabs w) : Calls Tryz.prog 145 #[.string S, .string T] w (Bi S T (fun x y => textOut (x + -y)) (.string ⟨#[]⟩) w) := by
  have HT := Lib.hid ht
  clear ht
  go_enter Tryz.func145, Tryz.ntmps145
  go_wp2_with (go_at_call 147; refine (withStr_c 194 #[] (enters_of Tryz.func194 (by kernel_rfl) rfl) _ [S, T] (fun zs => textOut (zs.headD 0 + -(zs.getD 1 0))) _ (strs_two w S T _) (by simp) ?hf).mono ?_)
  case hf =>
    intro zs hz W lv hb hw
    obtain ⟨x, y, rfl, hx, hy⟩ := two_zs hz
    exact sub1_c lv x y W hw (HT.out.below (Below.trans ((Below.refl w.heap.size w).alloc (Nat.le_refl _) _) (hb.mono (by simp)))) hx.2 hy.2
  rintro e w' h
  obtain ⟨a, b, rfl, hr⟩ := with_two (f := fun x y => textOut (x + -y)) h ((Below.refl w.heap.size w).alloc (Nat.le_refl _) _)
  have HR := Lib.hid hr
  clear h hr
  go_wp2
  go_ret2
  exact HR.out

set_option maxHeartbeats 2000000 in
theorem cmp1_c (lv : Value) (x y : Int) (w : World) (h : Whs w lv [x, y]) (ht : Tabs w) (hx : x.natAbs < 10 ^ 200) (hy : y.natAbs < 10 ^ 200) :
    Calls Tryz.prog 141 #[lv] w fun e w' => e = (Out.ok (.int .i64 (sgn (x + -y)))).end_ ∧ Below w.heap.size w w' := by
  obtain ⟨a, c, p, q, rfl, c0, c1, hp, c2, c3, hq⟩ := h.two
  have HT := Lib.hid ht
  have HX : Hid (Wh w.drew (.agg #[.bool (decide (x < 0)), p]) x) := ⟨p, rfl, hp.drew⟩
  have HY : Hid (Wh w.drew (.agg #[.bool (decide (y < 0)), q]) y) := ⟨q, rfl, hq.drew⟩
  obtain ⟨A6, n6, c6, rfl⟩ := hp.form
  obtain ⟨A7, n7, c7, rfl⟩ := hq.form
  have HLX : Hid ((dg 1000000000 x.natAbs).length ≤ 1000000) := Nat.le_trans (len23 hx) (by decide)
  have HLY : Hid ((dg 1000000000 (-y).natAbs).length ≤ 1000000) := by show _ ≤ _; rw [Int.natAbs_neg]; exact Nat.le_trans (len23 hy) (by decide)
  have HL : Hid ((dg 1000000000 (x + -y).natAbs).length ≤ 1000000) := Nat.le_trans (dg_length_mono (by decide) (Int.natAbs_add_le x (-y))) (by rw [Int.natAbs_neg]; exact Nat.le_trans (len_add hx hy) (by decide))
  have HC0 : Hid (w.drew.cell? ⟨a, 0, none⟩ = some (.bool (decide (x < 0)))) := c0
  have HC1 : Hid (w.drew.cell? ⟨a, 1, none⟩ = some (.slice A6 n6 c6)) := c1
  generalize hbx : decide (x < 0) = bx at *
  generalize hby : decide (y < 0) = by_ at *
  clear h ht hp hq hbx hby hx hy
  go_enter Tryz.func141, Tryz.ntmps141
  go_wp2_with fail
  go_region_with (first
    | (go_at_call 143; refine (negative_c _ y _ HY.out).mono ?_; rintro e W1 ⟨t, rfl, hu, hbz⟩; have HM := Lib.hid hu; have HX1 := Lib.hid (HX.out.below hbz); have k0 := keep_cell hbz HC0.out; have k1 := keep_cell hbz HC1.out; have HB0 := Lib.hid (below_then' (Below.refl w.heap.size w).drew hbz); clear hu hbz)
    | (go_at_call 142; refine (add_c _ _ x (-y) _ HX1.out HM.out HLX.out HLY.out).mono ?_; rintro e W2 ⟨u, rfl, hu, hbz⟩; have HU := Lib.hid hu.wh; have HB := Lib.hid (below_then' HB0.out hbz); clear hu hbz)
    | (go_at_call 144; refine (signum_c _ (x + -y) _ HU.out HL.out).mono ?_; rintro e W3 ⟨rfl, hbz⟩; have HB2 := Lib.hid (below_then' HB.out hbz); clear hbz))
  all_goals
    go_wp2
    go_ret
    exact ⟨rfl, HB2.out⟩

set_option maxHeartbeats 1000000 in
theorem numCmp_c (S T : ByteArray) (w : World) (ht : Tabs w) : Calls Tryz.prog 71 #[.string S, .string T] w (Bi S T (fun x y => Out.ok (.int .i64 (sgn (x + -y)))) (.int .i64 0) w) := by
  have HT := Lib.hid ht
  clear ht
  go_enter Tryz.func71, Tryz.ntmps71
  go_wp2_with (go_at_call 140; refine (withInt_c 141 #[] (enters_of Tryz.func141 (by kernel_rfl) rfl) _ [S, T] (fun zs => Out.ok (.int .i64 (sgn (zs.headD 0 + -(zs.getD 1 0))))) _ (strs_two w S T _) (by simp) ?hf).mono ?_)
  case hf =>
    intro zs hz W lv hb hw
    obtain ⟨x, y, rfl, hx, hy⟩ := two_zs hz
    exact cmp1_c lv x y W hw (HT.out.below (Below.trans ((Below.refl w.heap.size w).alloc (Nat.le_refl _) _) (hb.mono (by simp)))) hx.2 hy.2
  rintro e w' h
  obtain ⟨a, b, rfl, hr⟩ := with_two (f := fun x y => Out.ok (.int .i64 (sgn (x + -y)))) h ((Below.refl w.heap.size w).alloc (Nat.le_refl _) _)
  have HR := Lib.hid hr
  clear h hr
  go_wp2
  go_ret2
  exact HR.out

end Go.Proofs.YtekbfommnmikbaaGreatDoor

namespace Go.Proofs.YtekbfommnmikbaaGreatDoor
set_option linter.unusedVariables false
set_option linter.unusedSimpArgs false
open Go.RowKit Go.Shelf Go.Proofs

end Go.Proofs.YtekbfommnmikbaaGreatDoor
/- Package real: Print. -/
namespace Go.Proofs.YtekbfommnmikbaaGreatDoor
set_option linter.unusedVariables false
set_option linter.unusedSimpArgs false
open Go.RowKit Go.Shelf Go.Proofs
attribute [local go_sem ↓] Go.wp_at_zero Go.wp_at_succ

/-- The table that Itoa reads. -/
def P10 (w : World) : Prop := Lib.TabIs Tryz.prog w "internal/strconv.uint64pow10" .u64 Lib.pow10Tab
theorem P10.below {w w' : World} (h : P10 w) (hb : Below w.heap.size w w') : P10 w' := var_stay h hb
theorem itoaR_c (n : Int) (w : World) (h0 : -9223372036854775808 ≤ n) (h1 : n ≤ 9223372036854775807) (ht : P10 w) : Calls Tryz.prog 99 #[.int .i64 n] w fun e w' => e = .returned (.string ⟨(Lib.itoa n).toArray⟩) ∧ Below w.heap.size w w' := by
  refine (Tryz.strconv_Itoa n h0 h1 w ht).mono ?_
  rintro e w' ⟨rfl, k, os, rfl⟩
  exact ⟨rfl, Lib.below_grow _ w (Nat.le_refl _) k os⟩

/-- The digits without the zeros at the end. -/
def digL (m : Nat) : List UInt8 := Lib.trimRightB (Lib.itoa m) 48
def orL (l o : List UInt8) : List UInt8 := if l.isEmpty then o else l
def fillL (m : Nat) (k : Int) : List UInt8 := digL m ++ Lib.repeatL [48] (max 0 (k - (digL m).length)).toNat
/-- What is printed behind the sign. -/
def bodyL (m : Nat) (k : Int) : List UInt8 :=
  if 1 ≤ k ∧ k ≤ 15 then (fillL m k).take k.toNat ++ [46] ++ orL ((fillL m k).drop k.toNat) [48]
  else if -3 ≤ k ∧ k ≤ 0 then [48, 46] ++ Lib.repeatL [48] (-k).toNat ++ digL m
  else (digL m).take 1 ++ [46] ++ orL ((digL m).drop 1) [48] ++ [101] ++ Lib.itoa (k - 1)
def printL (m e : Int) : List UInt8 := if m = 0 then [48, 46, 48] else (if m < 0 then [45] else []) ++ bodyL m.natAbs (12 + e)
def printR (m e : Int) : Value := if ¬ RV m.natAbs e then .tuple #[.string ⟨#[]⟩, .int .i64 1] else .tuple #[.string ⟨(printL m e).toArray⟩, .int .i64 0]

set_option maxHeartbeats 1000000 in
theorem or_c (s o : ByteArray) (w : World) : Calls Tryz.prog 102 #[.string s, .string o] w fun e w' => e = .returned (.string (if s.data.toList.isEmpty then o else s)) ∧ w' = w := by
  rw [← ByteArray.toList_eq]
  by_cases h : s.toList.isEmpty = true
  · rw [if_pos h]
    go_enter Tryz.func102, Tryz.ntmps102
    go_wp2_with fail
    go_ret
    exact ⟨rfl, rfl⟩
  · have h' : s.toList.isEmpty = false := Bool.eq_false_iff.2 h
    rw [if_neg h]
    clear h
    go_enter Tryz.func102, Tryz.ntmps102
    go_wp2_with fail
    go_ret
    exact ⟨rfl, rfl⟩
theorem or_q (s o : ByteArray) (w : World) (n : Nat) : Calls Tryz.prog 102 #[.string s, .string o] (w.drewN n) fun e w' => e = .returned (.string (if s.data.toList.isEmpty then o else s)) ∧ ∃ m, w' = w.drewN m := Calls.quiet_of_same (or_c s o (w.drewN n))

theorem dropWhile_nil {α : Type} {p : α → Bool} : ∀ {l : List α}, l.dropWhile p = [] ↔ ∀ x ∈ l, p x = true
  | [] => by simp
  | a :: l => by
    rw [List.dropWhile_cons]
    by_cases h : p a = true
    · rw [if_pos h, dropWhile_nil]; simp [h]
    · rw [if_neg h]; simp [h]
/-- The digits: 1 to 12 of them, the last one not 0. -/
theorem digL_len {m : Nat} (h : 0 < m) (h2 : m < 1000000000000) : 0 < (digL m).length ∧ (digL m).length ≤ 12 := by
  have e : Lib.itoa (m : Int) = Lib.decDigits m := Lib.itoa_nonneg m
  unfold digL
  rw [e]
  constructor
  · refine List.length_pos_iff.2 fun h3 => ?_
    unfold Lib.trimRightB at h3
    have h4 := List.reverse_eq_nil_iff.1 h3
    rw [dropWhile_nil] at h4
    have h5 := decDigits_head m h
    have h6 := decDigits_ne m
    cases hd : Lib.decDigits m with
    | nil => exact h6 hd
    | cons b l =>
      rw [hd] at h4 h5
      have := h4 b (by simp)
      rw [beq_iff_eq] at this
      subst this
      exact h5 rfl
  · have h3 : (Lib.trimRightB (Lib.decDigits m) 48).length ≤ (Lib.decDigits m).length := by
      unfold Lib.trimRightB
      rw [List.length_reverse]
      have := (List.dropWhile_sublist (fun x => x == (48 : UInt8)) (l := (Lib.decDigits m).reverse)).length_le
      rwa [List.length_reverse] at this
    have h4 : (Lib.decDigits m).length ≤ 12 := by rw [Lib.decDigits_length]; exact (nDigits_le (by decide)).2 h2
    omega
theorem cat2 (a b : ByteArray) {i j : Nat} (h1 : a.size = i) (h2 : b.size = j) : ∃ c, a ++ b = c ∧ c.size = i + j ∧ c.data.toList = a.data.toList ++ b.data.toList := ⟨_, rfl, by rw [ByteArray.size_append, h1, h2], by rw [ByteArray.data_append, Array.toList_append]⟩
theorem cutl (a : ByteArray) {f : Nat} (q : Nat) (h : a.size = f) (hq : q ≤ f) : ∃ c, a.extract 0 q = c ∧ c.size = q ∧ c.data.toList = a.data.toList.take q := ⟨_, rfl, by rw [ByteArray.size_extract]; omega, by rw [ext_list]; simp⟩
theorem cutr (a : ByteArray) {f : Nat} (q : Nat) (h : a.size = f) (hq : q ≤ f) : ∃ c, a.extract q f = c ∧ c.size = f - q ∧ c.data.toList = a.data.toList.drop q := ⟨_, rfl, by rw [ByteArray.size_extract]; omega, by rw [ext_list, List.take_of_length_le (by rw [← h]; exact Nat.le_refl _)]⟩
theorem orc (a : ByteArray) {f : Nat} (h : a.size = f) : ∃ c, (if a.data.toList.isEmpty then (⟨#[48]⟩ : ByteArray) else a) = c ∧ c.size ≤ f + 1 ∧ c.data.toList = orL a.data.toList [48] := by
  refine ⟨_, rfl, ?_, ?_⟩
  · split
    · show 1 ≤ f + 1; omega
    · omega
  · unfold orL
    split <;> rfl
theorem str_eq {a b : ByteArray} (h : a.data.toList = b.data.toList) : a = b := ByteArray.ext (Array.ext' h)

set_option maxRecDepth 100000 in
set_option maxHeartbeats 4000000 in
theorem printR_ab (m e : Int) (w : World) (h0 : -9223372036854775808 ≤ m) (h1 : m ≤ 9223372036854775807) (ht : P10 w) (hab : ¬ (¬ (1 ≤ 12 + e ∧ 12 + e ≤ 15) ∧ ¬ (-3 ≤ 12 + e ∧ 12 + e ≤ 0))) :
    Calls Tryz.prog 29 #[.agg #[.int .i64 m, .int .i64 e]] w fun en w' => en = .returned (printR m e) ∧ Below w.heap.size w w' := by
  obtain ⟨W, hW, k0, hbel⟩ := bx1h w #[.int .i64 m, .int .i64 e] 23
  have HBEL := Lib.hid hbel
  have HT := Lib.hid (ht.below hbel)
  have c00 := cell_of_heap k0 0; have c01 := cell_of_heap k0 1
  simp at c00 c01
  have HV := Lib.hid (fun w' => validR_c m e w' h0 h1)
  clear k0 hbel ht
  by_cases h : RV m.natAbs e
  · rw [show decide (RV m.natAbs e) = true from decide_eq_true h] at HV
    have hnn : ¬ ¬ RV m.natAbs e := fun x => x h
    have hr : printR m e = .tuple #[.string ⟨(printL m e).toArray⟩, .int .i64 0] := by unfold printR; rw [if_neg hnn]
    rw [hr]
    clear hr
    by_cases m0 : m = 0
    · subst m0
      rw [show printL 0 e = [48, 46, 48] from rfl]
      clear hnn h
      go_enter Tryz.func29, Tryz.ntmps29
      go_wp2_with (go_at_call 33; (with_reducible refine (HV.out _).mono ?_); rintro en w2 ⟨rfl, hbz⟩; have c00 := keep_cell hbz c00; have c01 := keep_cell hbz c01; have HB := Lib.hid hbz; clear hbz)
      go_ret2
      exact ⟨rfl, belowT HBEL.out HB.out⟩
    obtain ⟨x0, x1, x2⟩ := RV_abs h
    have hmp : 0 < m.natAbs := by omega
    have hdl := digL_len hmp x0
    have hmm : -9223372036854775807 ≤ m := by omega
    have HS := Lib.hid (fun w' => size_c m w' hmm h1)
    obtain ⟨M, hM⟩ : ∃ M, m.natAbs = M := ⟨_, rfl⟩
    rw [hM] at HS hdl x0 hmp
    have hit : ByteArray.size ⟨(Lib.itoa (M : Int)).toArray⟩ ≤ 9223372036854775807 := by
      have := Lib.itoa_length_le (M : Int) (by omega) (by omega)
      show (Lib.itoa (M : Int)).toArray.size ≤ _
      rw [List.size_toArray]; omega
    have HIT := Lib.hid (fun w' (ht : P10 w') => itoaR_c (M : Int) w' (by omega) (by omega) ht)
    have HTR := Lib.hid (fun w' => Tryz.strings_TrimRight_one ⟨(Lib.itoa (M : Int)).toArray⟩ 48 (by decide) w' hit)
    obtain ⟨I, hI⟩ : ∃ I : ByteArray, ⟨(Lib.itoa (M : Int)).toArray⟩ = I := ⟨_, rfl⟩
    obtain ⟨D, hD⟩ : ∃ D : ByteArray, ⟨(digL M).toArray⟩ = D := ⟨_, rfl⟩
    have hdd : D.data.toList = digL M := by rw [← hD]
    have hds : D.size = (digL M).length := by rw [← hD]; rfl
    rw [hI] at HIT HTR
    rw [show (⟨(Lib.trimRightB I.data.toList 48).toArray⟩ : ByteArray) = D from by rw [← hD, ← hI]; rfl] at HTR
    rw [← hds] at hdl
    obtain ⟨n, hn⟩ : ∃ n, D.size = n := ⟨_, rfl⟩
    rw [hn] at hdl
    obtain ⟨d1, d2⟩ := hdl
    obtain ⟨k, hk⟩ : ∃ k, 12 + e = k := ⟨_, rfl⟩
    have HAB := Lib.hid (hk ▸ hab)
    clear hab
    have hk1 : -99 ≤ k := by omega
    have hk2 : k ≤ 100 := by omega
    obtain ⟨mi, hmi⟩ : ∃ mi : ByteArray, mi = (if m < 0 then ⟨#[45]⟩ else ⟨#[]⟩) := ⟨_, rfl⟩
    have HP : Hid (printL m e = mi.data.toList ++ bodyL M k) := by
      show _ = _
      unfold printL
      rw [if_neg m0, hM, hk, hmi]
      split <;> rfl
    have m0' : (m == 0) = false := by simp [m0]
    clear hnn h hI hD hM hmm hit
    have hmi2 : (m < 0 ∧ mi = ⟨#[45]⟩) ∨ (¬ m < 0 ∧ mi = ⟨#[]⟩) := by
      by_cases hm : m < 0
      · exact .inl ⟨hm, by rw [hmi, if_pos hm]⟩
      · exact .inr ⟨hm, by rw [hmi, if_neg hm]⟩
    clear hmi
    by_cases k1 : 1 ≤ k ∧ k ≤ 15
    · have hbd : bodyL M k = (fillL M k).take k.toNat ++ [46] ++ orL ((fillL M k).drop k.toNat) [48] := by unfold bodyL; rw [if_pos k1]
      obtain ⟨ka, kb⟩ := k1
      obtain ⟨q, rfl⟩ : ∃ q : Nat, k = (q : Int) := ⟨k.toNat, by omega⟩
      obtain ⟨c, hc⟩ : ∃ c : Nat, max 0 ((q : Int) - (n : Int)) = (c : Int) := ⟨(max 0 ((q : Int) - (n : Int))).toNat, by omega⟩
      have HRP := Lib.hid (fun w' => Tryz.strings_Repeat ⟨#[48]⟩ c w' (by omega) (by show 1 * c ≤ _; omega))
      obtain ⟨Z, hZ⟩ : ∃ Z : ByteArray, ⟨(Lib.repeatL [48] c).toArray⟩ = Z := ⟨_, rfl⟩
      rw [show (⟨(Lib.repeatL (ByteArray.mk #[48]).data.toList c).toArray⟩ : ByteArray) = Z from hZ] at HRP
      obtain ⟨F, hF⟩ : ∃ F : ByteArray, D ++ Z = F := ⟨_, rfl⟩
      have hFL : F.data.toList = fillL M q := by
        rw [← hF, ByteArray.data_append, Array.toList_append, hdd, ← hZ]
        unfold fillL
        rw [← hds, hn, hc, Int.toNat_natCast]
      have hFs : F.size = n + c := by rw [← hF, ByteArray.size_append, hn, ← hZ]; show n + (Lib.repeatL [48] c).toArray.size = _; rw [List.size_toArray, Lib.repeatL_length]; simp
      have HBD := Lib.hid hbd; have HFL := Lib.hid hFL
      have hzs : Z.size = c := by rw [← hZ]; show (Lib.repeatL [48] c).toArray.size = _; rw [List.size_toArray, Lib.repeatL_length]; simp
      have hc15 : c ≤ 15 := by omega
      obtain ⟨f, hf⟩ : ∃ f, F.size = f := ⟨_, rfl⟩
      have hf15 : f ≤ 27 := by omega
      have hqf : q ≤ f := by omega
      clear hbd hFL hZ hFs hdd hds
      obtain ⟨G, hG, hGs, hGl⟩ := cutl F q hf hqf
      obtain ⟨H, hH, hHs, hHl⟩ := cutr F q hf hqf
      obtain ⟨Rr, hRr, hRs, hRl⟩ := orc H hHs
      obtain ⟨rs, hrs⟩ : ∃ rs, Rr.size = rs := ⟨_, rfl⟩
      rw [hrs] at hRs
      obtain ⟨ms, hms⟩ : ∃ ms, mi.size = ms := ⟨_, rfl⟩
      have hms1 : ms ≤ 1 := by rcases hmi2 with ⟨-, rfl⟩ | ⟨-, rfl⟩ <;> (rw [← hms]; decide)
      obtain ⟨J1, hJ1, hs1, hl1⟩ := cat2 mi G hms hGs
      obtain ⟨J2, hJ2, hs2, hl2⟩ := cat2 J1 ⟨#[46]⟩ hs1 (show ByteArray.size ⟨#[46]⟩ = 1 from rfl)
      obtain ⟨J3, hJ3, hs3, hl3⟩ := cat2 J2 Rr hs2 hrs
      have HORQ := Lib.hid (fun (w' : World) (nn : Nat) => or_q H ⟨#[48]⟩ w' nn)
      rw [hRr] at HORQ
      have HEND : Hid ((⟨(printL m e).toArray⟩ : ByteArray) = J3) := by
        show _ = _
        apply str_eq
        rw [HP.out, HBD.out, hl3, hl2, hl1, hRl, hHl, hGl, HFL.out]
        simp
      clear hl1 hl2 hl3 hRl hHl hGl hRr
      rcases hmi2 with ⟨hm, rfl⟩ | ⟨hm, rfl⟩
      all_goals
        go_enter Tryz.func29, Tryz.ntmps29
        go_upto_region 12 with (first
          | (go_at_call 33; (with_reducible refine (HV.out _).mono ?_); rintro en w2 ⟨rfl, hbz⟩; have c00 := keep_cell hbz c00; have c01 := keep_cell hbz c01; have HB := Lib.hid hbz; clear hbz)
          | (go_at_call 100; (with_reducible refine (HS.out _).mono ?_); rintro en w3 ⟨rfl, rfl⟩)
          | (go_at_call 99; (with_reducible refine (HIT.out _ (HT.out.below HB.out)).mono ?_); rintro en w4 ⟨rfl, hbz⟩; have c00 := keep_cell hbz c00; have c01 := keep_cell hbz c01; have HB := Lib.hid (belowT HB.out hbz); clear hbz)
          | (go_at_call 98; (with_reducible refine (HTR.out _).mono ?_); rintro en w5 ⟨rfl, rfl⟩)
          | (go_at_call 101; (with_reducible refine (HRP.out _).mono ?_); rintro en w6 ⟨rfl, hbz⟩; have c00 := keep_cell hbz c00; have c01 := keep_cell hbz c01; have HB := Lib.hid (belowT HB.out hbz); clear hbz))
        go_quiet ((go_at_call 102; exact HORQ.out _ _))
        go_wp2_with fail
        rw [HEND.out]
        go_ret2
        exact ⟨rfl, belowT HBEL.out (below_drewN HB.out nq)⟩
    obtain ⟨ms, hms⟩ : ∃ ms, mi.size = ms := ⟨_, rfl⟩
    have hms1 : ms ≤ 1 := by rcases hmi2 with ⟨-, rfl⟩ | ⟨-, rfl⟩ <;> (rw [← hms]; decide)
    by_cases k2 : -3 ≤ k ∧ k ≤ 0
    · have hbd : bodyL M k = [48, 46] ++ Lib.repeatL [48] (-k).toNat ++ digL M := by unfold bodyL; rw [if_neg k1, if_pos k2]
      obtain ⟨ka, kb⟩ := k2
      have kc : ¬ 1 ≤ k := by omega
      obtain ⟨c, hc⟩ : ∃ c : Nat, -k = (c : Int) := ⟨(-k).toNat, by omega⟩
      have HRP := Lib.hid (fun w' => Tryz.strings_Repeat ⟨#[48]⟩ c w' (by omega) (by show 1 * c ≤ _; omega))
      obtain ⟨Z, hZ⟩ : ∃ Z : ByteArray, ⟨(Lib.repeatL [48] c).toArray⟩ = Z := ⟨_, rfl⟩
      rw [show (⟨(Lib.repeatL (ByteArray.mk #[48]).data.toList c).toArray⟩ : ByteArray) = Z from hZ] at HRP
      have hzl : Z.data.toList = Lib.repeatL [48] c := by rw [← hZ]
      have hzs : Z.size = c := by rw [← hZ]; show (Lib.repeatL [48] c).toArray.size = _; rw [List.size_toArray, Lib.repeatL_length]; simp
      have hc15 : c ≤ 15 := by omega
      obtain ⟨J1, hJ1, hs1, hl1⟩ := cat2 mi ⟨#[48, 46]⟩ hms (show ByteArray.size ⟨#[48, 46]⟩ = 2 from rfl)
      obtain ⟨J2, hJ2, hs2, hl2⟩ := cat2 J1 Z hs1 hzs
      obtain ⟨J3, hJ3, hs3, hl3⟩ := cat2 J2 D hs2 hn
      have HEND : Hid ((⟨(printL m e).toArray⟩ : ByteArray) = J3) := by
        show _ = _
        apply str_eq
        rw [HP.out, hbd, hl3, hl2, hl1, hzl, hdd, hc]
        simp
      clear hl1 hl2 hl3 hzl hZ hdd hds hbd k1
      rcases hmi2 with ⟨hm, rfl⟩ | ⟨hm, rfl⟩
      all_goals
        go_enter Tryz.func29, Tryz.ntmps29
        go_wp2_with (first
          | (go_at_call 33; (with_reducible refine (HV.out _).mono ?_); rintro en w2 ⟨rfl, hbz⟩; have c00 := keep_cell hbz c00; have c01 := keep_cell hbz c01; have HB := Lib.hid hbz; clear hbz)
          | (go_at_call 100; (with_reducible refine (HS.out _).mono ?_); rintro en w3 ⟨rfl, rfl⟩)
          | (go_at_call 99; (with_reducible refine (HIT.out _ (HT.out.below HB.out)).mono ?_); rintro en w4 ⟨rfl, hbz⟩; have c00 := keep_cell hbz c00; have c01 := keep_cell hbz c01; have HB := Lib.hid (belowT HB.out hbz); clear hbz)
          | (go_at_call 98; (with_reducible refine (HTR.out _).mono ?_); rintro en w5 ⟨rfl, rfl⟩)
          | (go_at_call 101; (with_reducible refine (HRP.out _).mono ?_); rintro en w6 ⟨rfl, hbz⟩; have c00 := keep_cell hbz c00; have c01 := keep_cell hbz c01; have HB := Lib.hid (belowT HB.out hbz); clear hbz))
        rw [HEND.out]
        go_ret2
        exact ⟨rfl, belowT HBEL.out HB.out⟩
    · exact absurd ⟨k1, k2⟩ HAB.out
  · rw [show decide (RV m.natAbs e) = false from decide_eq_false h] at HV
    have hr : printR m e = .tuple #[.string ⟨#[]⟩, .int .i64 1] := by unfold printR; rw [if_pos h]
    rw [hr]
    clear hr h
    go_enter Tryz.func29, Tryz.ntmps29
    go_wp2_with (go_at_call 33; (with_reducible refine (HV.out _).mono ?_); rintro en w2 ⟨rfl, hbz⟩; have c00 := keep_cell hbz c00; have c01 := keep_cell hbz c01; have HB := Lib.hid hbz; clear hbz)
    go_ret2
    exact ⟨rfl, belowT HBEL.out HB.out⟩
end Go.Proofs.YtekbfommnmikbaaGreatDoor
/- Plain words for texts of reals: what Parse takes, what Print writes. No program in sight. -/
namespace Go.Proofs.YtekbfommnmikbaaGreatDoor
set_option linter.unusedVariables false
set_option linter.unusedSimpArgs false

/-- A decimal digit. -/
def isD (b : UInt8) : Bool := decide (48 ≤ b.toNat) && decide (b.toNat ≤ 57)
/-- The exponent's digits; 100000 at most. -/
def expo (l : List UInt8) : Nat := l.foldl (fun n b => min 100000 (10 * n + (b.toNat - 48))) 0
/-- One byte is taken, if it is one of some. -/
def skipL (f : UInt8 → Bool) (l : List UInt8) : List UInt8 × List UInt8 := match l with
  | [] => ([], [])
  | b :: t => if f b then ([b], t) else ([], b :: t)
end Go.Proofs.YtekbfommnmikbaaGreatDoor
