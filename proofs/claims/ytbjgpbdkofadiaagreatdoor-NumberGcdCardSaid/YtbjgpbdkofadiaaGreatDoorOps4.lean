/- FromInt. -/
import Derived.Test.YtbjgpbdkofadiaaGreatDoorOps3
namespace Go.Proofs.YtbjgpbdkofadiaaGreatDoor
set_option linter.unusedVariables false
set_option linter.unusedSimpArgs false
open Go.RowKit Go.Shelf Go.Proofs

theorem fromInt_c (n : Int) (h0 : -9223372036854775808 ≤ n) (h1 : n ≤ 9223372036854775807) (w : World) (ht : Tabs w) : Calls Tryz.prog 50 #[.int .i64 n] w fun e w' => e = .returned (.string ⟨(Lib.itoa n).toArray⟩) ∧ Below w.heap.size w w' := by
  have HT := Lib.hid ht
  clear ht
  go_enter Tryz.func50, Tryz.ntmps50
  go_wp2_with (go_at_call 102; refine (Tryz.strconv_Itoa n h0 h1 _ HT.out.pow10).mono ?_; rintro e w' ⟨rfl, k, os, rfl⟩)
  go_ret
  exact ⟨rfl, Lib.below_grow _ w (Nat.le_refl _) k os⟩


theorem foldl_ge : ∀ (l : List UInt8) (acc : Nat), acc ≤ List.foldl (fun acc (b : UInt8) => 10 * acc + (b.toNat - 48)) acc l
  | [], acc => Nat.le_refl _
  | b :: l, acc => by
    have := foldl_ge l (10 * acc + (b.toNat - 48))
    simp only [List.foldl_cons]
    omega

/-- Digits, read by the library: the number, or too large. -/
theorem parse_any : ∀ (l : List UInt8) (acc : Nat), (∀ b ∈ l, isDig b) → acc < 18446744073709551616 → Lib.parseUint10 acc l = if List.foldl (fun acc (b : UInt8) => 10 * acc + (b.toNat - 48)) acc l < 18446744073709551616 then .ok (List.foldl (fun acc (b : UInt8) => 10 * acc + (b.toNat - 48)) acc l) else .range
  | [], acc, _, h => by simp [Lib.parseUint10, h]
  | b :: l, acc, h, ha => by
    have hd := h b (List.mem_cons_self ..)
    have hd1 := hd.1
    have hd2 := hd.2
    have hg := foldl_ge l (10 * acc + (b.toNat - 48))
    rw [Lib.parseUint10, if_pos (show 48 ≤ b.toNat ∧ b.toNat ≤ 57 from hd), List.foldl_cons]
    by_cases h1 : 1844674407370955162 ≤ acc
    · rw [if_pos h1, if_neg (by omega)]
    · rw [if_neg h1]
      by_cases h2 : 18446744073709551616 ≤ acc * 10 + (b.toNat - 48)
      · rw [if_pos h2, if_neg (by omega)]
      · rw [if_neg h2, parse_any l _ (fun c hc => h c (List.mem_cons_of_mem _ hc)) (by omega), Nat.mul_comm acc 10]


theorem mag_text (u : Nat) : Lib.parseMag (Lib.decDigits u) = if u < 18446744073709551616 then .ok u else .range := by
  rw [Lib.parseMag, if_neg (decDigits_ne u), parse_any _ 0 (decDigits_dig u) (by omega)]
  have := decVal_decDigits u
  unfold decVal at this
  rw [this]

theorem atoi_text (z : Int) : Lib.atoiAll (Lib.itoa z) = if -9223372036854775808 ≤ z ∧ z ≤ 9223372036854775807 then .ok z else .range := by
  by_cases hn : z < 0
  · rw [Lib.itoa, if_pos hn]
    simp only [Lib.atoiAll]
    rw [if_pos (by right; rfl), mag_text]
    by_cases h1 : z.natAbs < 18446744073709551616
    · rw [if_pos h1]
      simp only []
      by_cases h2 : -9223372036854775808 ≤ z
      · rw [if_neg (by intro h; exact h.1 rfl), if_neg (by omega), if_pos (show UInt8.toNat 45 = 45 from rfl), if_pos ⟨h2, by omega⟩]
        congr 1; omega
      · rw [if_neg (by intro h; exact h.1 rfl), if_pos ⟨rfl, by omega⟩, if_neg (by omega)]
    · rw [if_neg h1, if_neg (by omega)]
  · rw [Lib.itoa, if_neg hn]
    have hne := decDigits_ne z.toNat
    have hdg := decDigits_dig z.toNat
    have hm := mag_text z.toNat
    cases hl : Lib.decDigits z.toNat with
    | nil => exact absurd hl hne
    | cons c r =>
      rw [hl] at hdg hm
      have hd := hdg c (List.mem_cons_self ..)
      have hd1 := hd.1
      have hd2 := hd.2
      simp only [Lib.atoiAll]
      rw [if_neg (by omega), hm]
      by_cases h1 : z.toNat < 18446744073709551616
      · rw [if_pos h1]
        simp only []
        by_cases h2 : z ≤ 9223372036854775807
        · rw [if_neg (by omega), if_neg (by omega), if_neg (by omega), if_pos ⟨by omega, h2⟩]
          congr 1; omega
        · rw [if_pos (by omega), if_neg (by omega)]
      · rw [if_neg h1, if_neg (by omega)]


/-- What ToInt returns. -/
def toIntRes (z : Int) : Value := if -9223372036854775808 ≤ z ∧ z ≤ 9223372036854775807 then .tuple #[.int .i64 z, .int .i64 0] else .tuple #[.int .i64 0, .int .i64 3]
def ToIntP (S : ByteArray) (w : World) (e : Ending) (w' : World) : Prop :=
  ((∃ z, NumL S.data.toList z ∧ e = .returned (toIntRes z)) ∨ ((¬ ∃ z, NumL S.data.toList z) ∧ e = .returned (.tuple #[.int .i64 0, .int .i64 1]))) ∧ Below w.heap.size w w'

set_option maxHeartbeats 1000000 in
theorem toInt_c (S : ByteArray) (w : World) (ht : Tabs w) : Calls Tryz.prog 51 #[.string S] w (ToIntP S w) := by
  by_cases hv : ∃ z, NumL S.data.toList z
  · obtain ⟨z, hz⟩ := hv
    have hsz : S.size ≤ 201 := by have := numL_len hz; rw [Array.length_toList] at this; exact this
    have hat := atoi_text z
    rw [← hz.1] at hat
    have HZ := Lib.hid hz
    have HT := Lib.hid ht
    clear hz ht
    by_cases hr : -9223372036854775808 ≤ z ∧ z ≤ 9223372036854775807
    · rw [if_pos hr] at hat
      have HA := Lib.hid hat
      have HR : Hid (toIntRes z = .tuple #[.int .i64 z, .int .i64 0]) := if_pos hr
      clear hat hr
      go_enter Tryz.func51, Tryz.ntmps51
      go_wp2_with (first
        | (go_at_call 52; refine (valid_c S _).mono ?_; rintro e W2 ⟨⟨b, rfl, hb⟩, hbz⟩; have hbt : b = true := hb.2 ⟨z, HZ.out⟩; subst hbt; have HB := Lib.hid hbz; clear hb hbz)
        | (go_at_call 103; refine (Tryz.strconv_Atoi_ok S (by omega) z HA.out _).mono ?_; rintro e W3 ⟨rfl, hw⟩; have HB1 : Hid (Below W2.heap.size W2 W3) := (by rcases hw with rfl | ⟨t, rfl⟩; exact Below.refl _ _; exact Lib.bytesWorld_below _ _ _); clear hw))
      go_ret2
      exact ⟨.inl ⟨z, HZ.out, by rw [HR.out]; rfl⟩, below_then' HB.out HB1.out⟩
    · rw [if_neg hr] at hat
      have HA := Lib.hid hat
      have HR : Hid (toIntRes z = .tuple #[.int .i64 0, .int .i64 3]) := if_neg hr
      clear hat hr
      go_enter Tryz.func51, Tryz.ntmps51
      go_wp2_with (first
        | (go_at_call 52; refine (valid_c S _).mono ?_; rintro e W2 ⟨⟨b, rfl, hb⟩, hbz⟩; have hbt : b = true := hb.2 ⟨z, HZ.out⟩; subst hbt; have HB := Lib.hid hbz; clear hb hbz)
        | (go_at_call 103; obtain ⟨tp, p, hrv⟩ := (HT.out.below HB.out).range; refine (Tryz.strconv_Atoi_range_var S (by omega) HA.out tp p _ hrv).mono ?_; rintro e W3 ⟨N, rfl, -, -, hw⟩; have HB1 := Lib.hid hw; clear hw hrv))
      go_ret2
      exact ⟨.inl ⟨z, HZ.out, by rw [HR.out]; rfl⟩, below_then' HB.out HB1.out⟩
  · have HV := Lib.hid hv
    clear hv ht
    go_enter Tryz.func51, Tryz.ntmps51
    go_wp2_with (go_at_call 52; refine (valid_c S _).mono ?_; rintro e W2 ⟨⟨b, rfl, hb⟩, hbz⟩; have hbf : b = false := (by cases b; rfl; exact absurd (hb.1 rfl) HV.out); subst hbf; have HB := Lib.hid hbz; clear hb hbz)
    go_ret2
    exact ⟨.inr ⟨HV.out, rfl⟩, HB.out⟩

end Go.Proofs.YtbjgpbdkofadiaaGreatDoor
