/- Decimal digits: decimal, Valid. -/
import Derived.Test.YtbjgpbdkofadiaaGreatDoorStr
namespace Go.Proofs.YtbjgpbdkofadiaaGreatDoor
set_option linter.unusedVariables false
set_option linter.unusedSimpArgs false
open Go.RowKit Go.Shelf Go.Proofs
attribute [local go_sem] max2_int min2_int max_two min_two

/-- A digit's sign. -/
def isDig (b : UInt8) : Prop := 48 ≤ b.toNat ∧ b.toNat ≤ 57
/-- The number that decimal digits say. -/
def decVal : List UInt8 → Nat := List.foldl (fun acc b => 10 * acc + (b.toNat - 48)) 0

theorem decVal_append (l m : List UInt8) : decVal (l ++ m) = decVal l * 10 ^ m.length + decVal m := by
  have key : ∀ (m : List UInt8) (a : Nat), List.foldl (fun acc (b : UInt8) => 10 * acc + (b.toNat - 48)) a m = a * 10 ^ m.length + List.foldl (fun acc (b : UInt8) => 10 * acc + (b.toNat - 48)) 0 m := by
    intro m
    induction m with
    | nil => intro a; simp
    | cons b m ih =>
      intro a
      simp only [List.foldl_cons, List.length_cons]
      rw [ih (10 * a + (b.toNat - 48)), ih (10 * 0 + (b.toNat - 48)), Nat.pow_succ]
      grind
  unfold decVal
  rw [List.foldl_append, key m]

theorem decVal_lt : ∀ {l : List UInt8}, (∀ b ∈ l, isDig b) → decVal l < 10 ^ l.length
  | [], _ => by simp [decVal]
  | b :: l, h => by
    have ih := decVal_lt (l := l) fun c hc => h c (List.mem_cons_of_mem _ hc)
    have hb := (h b (List.mem_cons_self ..)).2
    rw [show b :: l = [b] ++ l from rfl, decVal_append, List.length_append, Nat.pow_add]
    have e : decVal [b] = b.toNat - 48 := by simp [decVal]
    have h2 : decVal [b] * 10 ^ l.length ≤ 9 * 10 ^ l.length := Nat.mul_le_mul_right _ (by omega)
    simp only [List.length_singleton, Nat.pow_one]
    omega

theorem parse_digits : ∀ (l : List UInt8) (acc : Nat), (∀ b ∈ l, isDig b) → (acc + 1) * 10 ^ l.length ≤ 1000000000000000000 → Lib.parseUint10 acc l = .ok (List.foldl (fun acc (b : UInt8) => 10 * acc + (b.toNat - 48)) acc l)
  | [], acc, _, _ => rfl
  | b :: l, acc, h, hb => by
    have hd := h b (List.mem_cons_self ..)
    rw [List.length_cons, Nat.pow_succ] at hb
    have h1 : 1 ≤ 10 ^ l.length := Nat.one_le_pow _ _ (by decide)
    have h3 : (acc + 1) * (10 ^ l.length * 10) = ((acc + 1) * 10) * 10 ^ l.length := by rw [Nat.mul_comm (10 ^ l.length) 10, ← Nat.mul_assoc]
    have h4 : ((acc + 1) * 10) * 1 ≤ ((acc + 1) * 10) * 10 ^ l.length := Nat.mul_le_mul_left _ h1
    have h5 : (acc * 10 + (b.toNat - 48) + 1) * 10 ^ l.length ≤ ((acc + 1) * 10) * 10 ^ l.length := Nat.mul_le_mul_right _ (by have := hd.2; omega)
    have hd1 := hd.1
    have hd2 := hd.2
    rw [Lib.parseUint10, if_pos (show 48 ≤ b.toNat ∧ b.toNat ≤ 57 from hd), if_neg (by omega), if_neg (by omega), parse_digits l _ (fun c hc => h c (List.mem_cons_of_mem _ hc)) (by omega), List.foldl_cons, Nat.mul_comm acc 10]

theorem atoi_digits {l : List UInt8} (h : ∀ b ∈ l, isDig b) (h0 : l ≠ []) (hl : l.length ≤ 9) : Lib.atoiAll l = .ok (decVal l : Int) := by
  cases l with
  | nil => exact absurd rfl h0
  | cons b l =>
    have hd := h b (List.mem_cons_self ..)
    have hd1 := hd.1
    have hd2 := hd.2
    have h9 : (0 + 1) * 10 ^ (b :: l).length ≤ 1000000000000000000 := by
      have : 10 ^ (b :: l).length ≤ 10 ^ 9 := Nat.pow_le_pow_right (by decide) hl
      omega
    have hlt := decVal_lt h
    have hlt2 : 10 ^ (b :: l).length ≤ 10 ^ 9 := Nat.pow_le_pow_right (by decide) hl
    have e : Lib.parseMag (b :: l) = .ok (decVal (b :: l)) := by
      rw [Lib.parseMag, if_neg (by simp)]
      exact parse_digits _ _ h h9
    simp only [Lib.atoiAll]
    rw [if_neg (by omega), e]
    simp only []
    rw [if_neg (by omega), if_neg (by omega), if_neg (by omega)]

/-- One part more. -/
theorem dec_step {l : List UInt8} {r k : Nat} {xs : List Int} {m : Nat} (hk : k = r - 9) (hr : r ≤ l.length) (h : val 1000000000 xs + (1000000000 : Int) ^ xs.length * (decVal (l.take r) : Int) = (m : Int)) :
    val 1000000000 (xs ++ [(decVal ((l.take r).drop k) : Int)]) + (1000000000 : Int) ^ (xs ++ [(decVal ((l.take r).drop k) : Int)]).length * (decVal (l.take k) : Int) = (m : Int) := by
  have e0 : l.take r = l.take k ++ (l.take r).drop k := by
    have := (List.take_append_drop k (l.take r)).symm
    rwa [List.take_take, Nat.min_eq_left (by omega)] at this
  have e1 : decVal (l.take r) = decVal (l.take k) * 10 ^ (r - k) + decVal ((l.take r).drop k) := by
    conv => lhs; rw [e0]
    rw [decVal_append, List.length_drop, List.length_take, Nat.min_eq_left hr]
  have e2 : decVal (l.take r) = decVal (l.take k) * 1000000000 + decVal ((l.take r).drop k) := by
    rcases Nat.lt_or_ge r 9 with h9 | h9
    · obtain rfl : k = 0 := by omega
      rw [e1]; simp [decVal]
    · rw [e1, show r - k = 9 by omega]
  rw [e2] at h
  rw [val_append, ← h, List.length_append, List.length_singleton, Int.pow_succ]
  simp only [val, Int.natCast_add, Int.natCast_mul]
  generalize ((decVal (l.take k) : Nat) : Int) = A
  generalize ((decVal ((l.take r).drop k) : Nat) : Int) = B
  generalize (1000000000 : Int) ^ xs.length = C
  grind

theorem ext_list (T : ByteArray) (a b : Nat) : (T.extract a b).data.toList = (T.data.toList.take b).drop a := by
  rw [ByteArray.data_extract]
  simp [List.drop_take]

set_option maxHeartbeats 2000000 in
theorem decimal_c (S : ByteArray) (w : World) (h : ∀ b ∈ S.data.toList, isDig b) (hl : S.data.toList.length ≤ 1000000) :
    Calls Tryz.prog 72 #[.string S] w (DgP 1000000000 (decVal S.data.toList) w) := by
  obtain ⟨l, hL⟩ : ∃ l, S.data.toList = l := ⟨_, rfl⟩
  rw [hL] at h hl ⊢
  have HD := Lib.hid h
  have HS := Lib.hid hL
  clear h hL
  go_enter Tryz.func72, Tryz.ntmps72
  go_wp2_with fail
  go_loopg [0, 3] l.length (fun g sv ov wr => ∃ (T : ByteArray) (xs : List Int), sv = .string T ∧ Hid (T.data.toList = l.take g) ∧ g ≤ l.length ∧ Hid (wr.ownsRow w.heap.size 3 1 ov xs.length (xs.map (Value.int .i64))) ∧ Hid (InR 1000000000 xs ∧ xs.length + g ≤ l.length ∧ val 1000000000 xs + (1000000000 : Int) ^ xs.length * (decVal (l.take g) : Int) = (decVal l : Int)) ∧ Hid (Below w.heap.size w wr))
  case atStart => exact ⟨S, [], rfl, by show _ = _; rw [HS.out, List.take_length], Nat.le_refl _, World.ownsRow_nil _ _ _ _, ⟨InR.nil _, by simp, by simp [val]⟩, Below.refl _ _⟩
  case round =>
    obtain ⟨T, xs, rfl, HT, hgl, HO, HX, HB⟩ := hrel
    have hTs : T.size = gk := by
      have := congrArg List.length HT.out
      rw [List.length_take, Nat.min_eq_left hgl] at this
      rw [Array.length_toList] at this
      exact this
    by_cases h0 : gk = 0
    · obtain ⟨hin, hlx, hval⟩ := HX.out
      subst h0
      rw [List.take_zero, show decVal [] = 0 from rfl] at hval
      have hv2 : val 1000000000 xs = ((decVal l : Nat) : Int) := by simpa using hval
      obtain ⟨A, c, rfl, hlc, hcm, hrow, hln⟩ := own_row HO.out
      have HROW := Lib.hid hrow
      have HF := Lib.hid (own_from HO.out)
      have HIN := Lib.hid hin
      have HV := Lib.hid hv2
      have hcm' : c ≤ 9223372036854775807 := by unfold maxLen at hcm; omega
      clear hin hval hv2 hrow hlx hgl
      go_wp2_with (go_at_call 89; refine (cut_c A c xs wr HROW.out hlc hcm').mono ?_; intro e w' hcut; obtain ⟨rfl, v, rfl, hdg, hblk⟩ := cut_dg (b := 1000000000) (by decide) HROW.out hlc hcm' HIN.out HV.out hcut)
      go_ret
      exact ⟨v, rfl, hdg, fun g hg => by obtain ⟨a, rfl, rfl⟩ := hblk g hg; exact HF.out _ rfl, HB.out⟩
    · have hk0 : 0 < gk := by omega
      by_cases h9 : 9 < gk
      · have hc9 : (0 : Int) < (gk : Int) - 9 := by omega
        obtain ⟨k, hk⟩ : ∃ k, gk - 9 = k := ⟨_, rfl⟩
        have hkg : k < gk := by omega
        obtain ⟨U, hU⟩ : ∃ U, T.extract (gk - 9) gk = U := ⟨_, rfl⟩
        have hUl : U.data.toList = (l.take gk).drop k := by rw [← hU, ext_list, HT.out, show gk - 9 = k by omega, List.take_take, Nat.min_self]
        obtain ⟨n0, hn0⟩ : ∃ n0, decVal ((l.take gk).drop k) = n0 := ⟨_, rfl⟩
        have hdg9 : ∀ b ∈ (l.take gk).drop k, isDig b := fun b hb => HD.out b (List.mem_of_mem_take (List.mem_of_mem_drop hb))
        have hlen9 : ((l.take gk).drop k).length = gk - k := by rw [List.length_drop, List.length_take, Nat.min_eq_left hgl]
        have hatoi := atoi_digits hdg9 (by intro e; rw [e] at hlen9; simp at hlen9; omega) (by omega)
        have hn9 : n0 < 1000000000 := by
          have := decVal_lt hdg9
          have h2 : 10 ^ ((l.take gk).drop k).length ≤ 10 ^ 9 := Nat.pow_le_pow_right (by decide) (by omega)
          rw [hn0] at this
          omega
        have hUs : U.size ≤ 9223372036854775806 := by
          have : U.size = gk - k := by rw [← hlen9, ← hUl, Array.length_toList]; rfl
          omega
        rw [hn0, ← hUl] at hatoi
        have HAT := Lib.hid hatoi
        have HU := Lib.hid hU
        have HN0 := Lib.hid hn0
        have HK := Lib.hid hk
        have HXL : Hid (xs.length ≤ 1000000) := by show xs.length ≤ 1000000; have := HX.out.2.1; omega
        clear hatoi hU hUl hn0 hdg9 hlen9 hk
        go_wp2_with (first | (go_at_call 103; rw [HU.out]; refine (Tryz.strconv_Atoi_ok U hUs (n0 : Int) HAT.out _).mono ?_; rintro e w1 ⟨rfl, hw1⟩; have HB1 : Hid (Below wr.heap.size wr w1) := (by rcases hw1 with rfl | ⟨t, rfl⟩; exact Below.refl _ _; exact Lib.bytesWorld_below _ _ _); have HO1 := Lib.hid (own_below HO.out HB1.out); have hsz1 := HB1.out.size; have hsz0 := HB.out.size; clear hw1) | (at_builtin; obtain ⟨i0, hi, hz0, hz1, hz2⟩ := info_parts info_int; refine wpList_append_own _ rfl _ _ 70 rfl w.heap.size 3 i0 (.int .i64 0) 1 8 Tryz.underlying70 hi hz0 hz1 hz2 rfl (by decide) _ _ _ rfl (HO1.out.alloc _) ⟨w1.heap.size, 0, none⟩ 1 1 [.int .i64 (n0 : Int)] rfl rfl (cell_one_new _ _ _) (by simp [Value.oneCell']) (by have := HXL.out; unfold maxLen; omega) (by have := HXL.out; omega) (by simp; omega) ?_; intro v' w2 hown1 hgrow1 _; have HO2 := Lib.hid hown1; have HG2 := Lib.hid hgrow1; clear hi hz0 hz1 hz2 hown1 hgrow1))
        go_roundg k
        case measure => exact hkg
        case rel =>
          obtain ⟨hin, hlx, hval⟩ := HX.out
          have hst := dec_step HK.out.symm hgl hval
          rw [HN0.out] at hst
          have hbb := below_then' HB.out HB1.out
          refine ⟨T.extract 0 (gk - 9), xs ++ [(n0 : Int)], rfl, ?_, by omega, by show World.ownsRow _ _ _ _ _ _ _; simpa using HO2.out, ⟨hin.snoc (by omega) (by omega), by rw [List.length_append, List.length_singleton]; omega, hst⟩, (hbb.alloc hbb.size _).grown HG2.out (by simp; omega) (own_from HO1.out)⟩
          show _ = _
          rw [ext_list, HT.out, HK.out, List.drop_zero, List.take_take, Nat.min_eq_left (by omega)]
      · have hc9 : ¬ (0 : Int) < (gk : Int) - 9 := by omega
        obtain ⟨k, hk⟩ : ∃ k, gk - 9 = k := ⟨_, rfl⟩
        have hkg : k < gk := by omega
        obtain ⟨U, hU⟩ : ∃ U, T.extract 0 gk = U := ⟨_, rfl⟩
        have hUl : U.data.toList = (l.take gk).drop k := by rw [← hU, ext_list, HT.out, show 0 = k by omega, List.take_take, Nat.min_self]
        obtain ⟨n0, hn0⟩ : ∃ n0, decVal ((l.take gk).drop k) = n0 := ⟨_, rfl⟩
        have hdg9 : ∀ b ∈ (l.take gk).drop k, isDig b := fun b hb => HD.out b (List.mem_of_mem_take (List.mem_of_mem_drop hb))
        have hlen9 : ((l.take gk).drop k).length = gk - k := by rw [List.length_drop, List.length_take, Nat.min_eq_left hgl]
        have hatoi := atoi_digits hdg9 (by intro e; rw [e] at hlen9; simp at hlen9; omega) (by omega)
        have hn9 : n0 < 1000000000 := by
          have := decVal_lt hdg9
          have h2 : 10 ^ ((l.take gk).drop k).length ≤ 10 ^ 9 := Nat.pow_le_pow_right (by decide) (by omega)
          rw [hn0] at this
          omega
        have hUs : U.size ≤ 9223372036854775806 := by
          have : U.size = gk - k := by rw [← hlen9, ← hUl, Array.length_toList]; rfl
          omega
        rw [hn0, ← hUl] at hatoi
        have HAT := Lib.hid hatoi
        have HU := Lib.hid hU
        have HN0 := Lib.hid hn0
        have HK := Lib.hid hk
        have HXL : Hid (xs.length ≤ 1000000) := by show xs.length ≤ 1000000; have := HX.out.2.1; omega
        clear hatoi hU hUl hn0 hdg9 hlen9 hk
        go_wp2_with (first | (go_at_call 103; rw [HU.out]; refine (Tryz.strconv_Atoi_ok U hUs (n0 : Int) HAT.out _).mono ?_; rintro e w1 ⟨rfl, hw1⟩; have HB1 : Hid (Below wr.heap.size wr w1) := (by rcases hw1 with rfl | ⟨t, rfl⟩; exact Below.refl _ _; exact Lib.bytesWorld_below _ _ _); have HO1 := Lib.hid (own_below HO.out HB1.out); have hsz1 := HB1.out.size; have hsz0 := HB.out.size; clear hw1) | (at_builtin; obtain ⟨i0, hi, hz0, hz1, hz2⟩ := info_parts info_int; refine wpList_append_own _ rfl _ _ 70 rfl w.heap.size 3 i0 (.int .i64 0) 1 8 Tryz.underlying70 hi hz0 hz1 hz2 rfl (by decide) _ _ _ rfl (HO1.out.alloc _) ⟨w1.heap.size, 0, none⟩ 1 1 [.int .i64 (n0 : Int)] rfl rfl (cell_one_new _ _ _) (by simp [Value.oneCell']) (by have := HXL.out; unfold maxLen; omega) (by have := HXL.out; omega) (by simp; omega) ?_; intro v' w2 hown1 hgrow1 _; have HO2 := Lib.hid hown1; have HG2 := Lib.hid hgrow1; clear hi hz0 hz1 hz2 hown1 hgrow1))
        go_roundg k
        case measure => exact hkg
        case rel =>
          obtain ⟨hin, hlx, hval⟩ := HX.out
          have hst := dec_step HK.out.symm hgl hval
          rw [HN0.out] at hst
          have hbb := below_then' HB.out HB1.out
          refine ⟨ByteArray.empty, xs ++ [(n0 : Int)], rfl, ?_, by omega, by show World.ownsRow _ _ _ _ _ _ _; simpa using HO2.out, ⟨hin.snoc (by omega) (by omega), by rw [List.length_append, List.length_singleton]; omega, hst⟩, (hbb.alloc hbb.size _).grown HG2.out (by simp; omega) (own_from HO1.out)⟩
          show _ = _
          rw [show k = 0 by have := HK.out; omega]; rfl
end Go.Proofs.YtbjgpbdkofadiaaGreatDoor
