/- The law NumberBack. -/
import Derived.Test.YtbjgpbdkofadiaaGreatDoorLawB
import Derived.Test.YtbjgpbdkofadiaaGreatDoorLawC
namespace Go.Proofs.YtbjgpbdkofadiaaGreatDoor
set_option linter.unusedVariables false
set_option linter.unusedSimpArgs false
open Go.RowKit Go.Shelf Go.Proofs

theorem law_tobase_i (S : ByteArray) (x bi : Int) (s : ByteArray) (w : World) (b : Nat) (hbi : bi = (b : Int)) (hS : NumL S.data.toList x) (hb : 2 ≤ b) (hb2 : b ≤ 36) (hs : ⟨(btext b x).toArray⟩ = s) (ht : Tabs w) : Calls Tryz.prog 36 #[.string S, .int .i64 bi] w (Ans s 0 w) := by
  rw [hbi]; exact law_tobase S x s w b hS hb hb2 hs ht
theorem law_frombase_i (S : ByteArray) (x bi : Int) (s : ByteArray) (k : Int) (w : World) (b : Nat) (hbi : bi = (b : Int)) (hb : 2 ≤ b) (hb2 : b ≤ 36) (hS : S.size ≤ 1000) (hf : formB b S.data.toList) (hx : fromB b S.data.toList = x) (hs : txt x = s) (hk : ern x = k) (ht : Tabs w) : Calls Tryz.prog 37 #[.string S, .int .i64 bi] w (Ans s k w) := by
  rw [hbi]; exact law_frombase S x s k w b hb hb2 hS hf hx hs hk ht
theorem law_frombase_form_i (S : ByteArray) (bi : Int) (w : World) (b : Nat) (hbi : bi = (b : Int)) (hb : 2 ≤ b) (hb2 : b ≤ 36) (hS : S.size ≤ 1000) (hf : ¬ formB b S.data.toList) (ht : Tabs w) : Calls Tryz.prog 37 #[.string S, .int .i64 bi] w (Ans ⟨#[]⟩ 7 w) := by
  rw [hbi]; exact law_frombase_form S w b hb hb2 hS hf ht
theorem btext_len {b : Nat} (hb : 2 ≤ b) {x : Int} (hx : x.natAbs < 10 ^ 200) : (btext b x).length ≤ 1000 := by
  have h1 : (dg b x.natAbs).length ≤ 700 := by
    refine (dg_length_le hb _ 700).2 (Nat.lt_of_lt_of_le hx ?_)
    exact Nat.le_trans (m := 2 ^ 700) (by decide +kernel) (Nat.pow_le_pow_left hb 700)
  unfold btext
  split
  · simp
  · rw [List.length_append]
    have h2 : (bdig b x.natAbs).length ≤ 700 := by unfold bdig; simpa using h1
    split <;> simp <;> omega

set_option maxRecDepth 100000 in
set_option maxHeartbeats 1000000 in
theorem back_bad (hsan : San) (a s : ByteArray) (base : Int) (w : World) (ht : Tabs w) (h : ¬ ∃ x y z, NumL a.data.toList x ∧ NumL (ByteArray.mk #[48]).data.toList y ∧ NumL (ByteArray.mk #[48]).data.toList z) :
    Calls Tryz.prog 8 #[.string a, .string s, .int .u8 base] w fun e w' => e = .returned (.bool true) ∧ Below w.heap.size w w' := by
  have HT := Lib.hid ht
  have HN := Lib.hid h
  have HB : Hid (Below w.heap.size w w) := Below.refl _ _
  have HS : Hid (∀ w : World, Tabs w → Calls Tryz.prog 18 #[] w fun e w' => e = .returned (.bool true) ∧ Below w.heap.size w w') := hsan
  clear ht h hsan
  go_enter Tryz.func8, Tryz.ntmps8
  go_wp2_with (first
  | (go_at_call 40; (with_reducible refine (integers_bad a ⟨#[48]⟩ ⟨#[48]⟩ _ HN.out).mono ?_); rintro e W ⟨rfl, hbz⟩; have HB := Lib.hid (below_then' HB.out hbz); clear hbz)
  | (go_at_call 18; (with_reducible refine (HS.out _ (HT.out.below HB.out)).mono ?_); rintro e W ⟨rfl, hbz⟩; have HB := Lib.hid (below_then' HB.out hbz); clear hbz))
  go_ret
  exact ⟨rfl, HB.out⟩

set_option maxRecDepth 100000 in
set_option maxHeartbeats 8000000 in
theorem back_long (hsan : San) (a s : ByteArray) (x base : Int) (w : World) (ht : Tabs w) (ha : NumL a.data.toList x) (hs : 700 < s.size) :
    Calls Tryz.prog 8 #[.string a, .string s, .int .u8 base] w fun e w' => e = .returned (.bool true) ∧ Below w.heap.size w w' := by
  have HT := Lib.hid ht
  have HA := Lib.hid ha
  have HB : Hid (Below w.heap.size w w) := Below.refl _ _
  have HS : Hid (∀ w : World, Tabs w → Calls Tryz.prog 18 #[] w fun e w' => e = .returned (.bool true) ∧ Below w.heap.size w w') := hsan
  have hl : decide (700 < (s.size : Int)) = true := by simp; omega
  clear ht ha hsan hs
  go_enter Tryz.func8, Tryz.ntmps8
  go_wp2_with (first
  | (go_at_call 40; (with_reducible refine (integers_ok a ⟨#[48]⟩ ⟨#[48]⟩ x 0 0 _ HA.out num_zero num_zero).mono ?_); rintro e W ⟨rfl, hbz⟩; have HB := Lib.hid (below_then' HB.out hbz); clear hbz)
  | (go_at_call 18; (with_reducible refine (HS.out _ (HT.out.below HB.out)).mono ?_); rintro e W ⟨rfl, hbz⟩; have HB := Lib.hid (below_then' HB.out hbz); clear hbz))
  go_ret
  exact ⟨rfl, HB.out⟩

set_option maxRecDepth 100000 in
set_option maxHeartbeats 8000000 in
theorem back_form (hsan : San) (a s : ByteArray) (x base : Int) (b : Nat) (w : World) (ht : Tabs w) (ha : NumL a.data.toList x) (hs : s.size ≤ 700) (h0 : 0 ≤ base) (h1 : base ≤ 255) (hb : base % 35 + 2 = (b : Int)) (hf : ¬ formB b s.data.toList) :
    Calls Tryz.prog 8 #[.string a, .string s, .int .u8 base] w fun e w' => e = .returned (.bool true) ∧ Below w.heap.size w w' := by
  have HT := Lib.hid ht
  have HA := Lib.hid ha
  have HB : Hid (Below w.heap.size w w) := Below.refl _ _
  have HS : Hid (∀ w : World, Tabs w → Calls Tryz.prog 18 #[] w fun e w' => e = .returned (.bool true) ∧ Below w.heap.size w w') := hsan
  have hl : decide (700 < (s.size : Int)) = false := by simp; omega
  have HB2 := Lib.hid (show 2 ≤ b ∧ b ≤ 36 from by omega)
  obtain ⟨t, htt⟩ : ∃ t : ByteArray, ⟨(btext b x).toArray⟩ = t := ⟨_, rfl⟩
  have htd : t.data.toList = btext b x := by rw [← htt]
  have HTT := Lib.hid htt
  have HTS := Lib.hid (show t.size ≤ 1000 from by
    have h := btext_len HB2.out.1 ha.2
    rw [← htd, Array.length_toList] at h
    exact h)
  have HTF : Hid (formB b t.data.toList) := by show formB _ _; rw [htd]; exact (formB_btext HB2.out.1 HB2.out.2 x).1
  have HTV : Hid (fromB b t.data.toList = x) := by show _ = _; rw [htd]; exact (formB_btext HB2.out.1 HB2.out.2 x).2
  have HXA := Lib.hid (num_txt ha)
  have HTEN : Hid ((⟨(btext 10 x).toArray⟩ : ByteArray) = a) := by
    show _ = _
    rw [btext_ten, ← ha.1]
  have HSS := Lib.hid (show s.size ≤ 1000 from by omega)
  have HF := Lib.hid hf
  have hb0 : 0 ≤ base % 35 := by omega
  have hb1 : base % 35 ≤ 34 := by omega
  have HBI := Lib.hid hb
  clear ht ha hsan hs hb htt htd hf
  go_enter Tryz.func8, Tryz.ntmps8
  go_wp2_with (first
  | (go_at_call 40; (with_reducible refine (integers_ok a ⟨#[48]⟩ ⟨#[48]⟩ x 0 0 _ HA.out num_zero num_zero).mono ?_); rintro e W ⟨rfl, hbz⟩; have HB := Lib.hid (below_then' HB.out hbz); clear hbz)
  | (go_at_call 36; (with_reducible refine (law_tobase_i a x (base % 35 + 2) t _ b HBI.out HA.out HB2.out.1 HB2.out.2 HTT.out (HT.out.below HB.out)).mono ?_); rintro e W ⟨rfl, hbz⟩; have HB := Lib.hid (below_then' HB.out hbz); clear hbz)
  | (go_at_call 37; (with_reducible refine (law_frombase_i t x (base % 35 + 2) a 0 _ b HBI.out HB2.out.1 HB2.out.2 HTS.out HTF.out HTV.out HXA.out.1 HXA.out.2 (HT.out.below HB.out)).mono ?_); rintro e W ⟨rfl, hbz⟩; have HB := Lib.hid (below_then' HB.out hbz); clear hbz)
  | (go_at_call 36; (with_reducible refine (law_tobase_i a x 10 a _ 10 rfl HA.out (by decide) (by decide) HTEN.out (HT.out.below HB.out)).mono ?_); rintro e W ⟨rfl, hbz⟩; have HB := Lib.hid (below_then' HB.out hbz); clear hbz)
  | (go_at_call 37; (with_reducible refine (law_frombase_form_i s (base % 35 + 2) _ b HBI.out HB2.out.1 HB2.out.2 HSS.out HF.out (HT.out.below HB.out)).mono ?_); rintro e W ⟨rfl, hbz⟩; have HB := Lib.hid (below_then' HB.out hbz); clear hbz)
  | (go_at_call 18; (with_reducible refine (HS.out _ (HT.out.below HB.out)).mono ?_); rintro e W ⟨rfl, hbz⟩; have HB := Lib.hid (below_then' HB.out hbz); clear hbz))
  all_goals
    go_ret
    exact ⟨rfl, HB.out⟩

set_option maxRecDepth 100000 in
set_option maxHeartbeats 8000000 in
theorem back_big (hsan : San) (a s : ByteArray) (x base : Int) (b : Nat) (w : World) (ht : Tabs w) (ha : NumL a.data.toList x) (hs : s.size ≤ 700) (h0 : 0 ≤ base) (h1 : base ≤ 255) (hb : base % 35 + 2 = (b : Int)) (hf : formB b s.data.toList) (hz : ern (fromB b s.data.toList) = 3) :
    Calls Tryz.prog 8 #[.string a, .string s, .int .u8 base] w fun e w' => e = .returned (.bool true) ∧ Below w.heap.size w w' := by
  have HT := Lib.hid ht
  have HA := Lib.hid ha
  have HB : Hid (Below w.heap.size w w) := Below.refl _ _
  have HS : Hid (∀ w : World, Tabs w → Calls Tryz.prog 18 #[] w fun e w' => e = .returned (.bool true) ∧ Below w.heap.size w w') := hsan
  have hl : decide (700 < (s.size : Int)) = false := by simp; omega
  have HB2 := Lib.hid (show 2 ≤ b ∧ b ≤ 36 from by omega)
  obtain ⟨t, htt⟩ : ∃ t : ByteArray, ⟨(btext b x).toArray⟩ = t := ⟨_, rfl⟩
  have htd : t.data.toList = btext b x := by rw [← htt]
  have HTT := Lib.hid htt
  have HTS := Lib.hid (show t.size ≤ 1000 from by
    have h := btext_len HB2.out.1 ha.2
    rw [← htd, Array.length_toList] at h
    exact h)
  have HTF : Hid (formB b t.data.toList) := by show formB _ _; rw [htd]; exact (formB_btext HB2.out.1 HB2.out.2 x).1
  have HTV : Hid (fromB b t.data.toList = x) := by show _ = _; rw [htd]; exact (formB_btext HB2.out.1 HB2.out.2 x).2
  have HXA := Lib.hid (num_txt ha)
  have HTEN : Hid ((⟨(btext 10 x).toArray⟩ : ByteArray) = a) := by
    show _ = _
    rw [btext_ten, ← ha.1]
  have HSS := Lib.hid (show s.size ≤ 1000 from by omega)
  have HF := Lib.hid hf
  have hb0 : 0 ≤ base % 35 := by omega
  have hb1 : base % 35 ≤ 34 := by omega
  have HBI := Lib.hid hb
  obtain ⟨z, hzz⟩ : ∃ z, fromB b s.data.toList = z := ⟨_, rfl⟩
  rw [hzz] at hz
  have HZ := Lib.hid hz
  have HZZ := Lib.hid hzz
  obtain ⟨y, hy⟩ : ∃ y, txt z = y := ⟨_, rfl⟩
  have HY := Lib.hid hy
  clear ht ha hsan hs hb htt htd hf hz hzz hy
  go_enter Tryz.func8, Tryz.ntmps8
  go_wp2_with (first
  | (go_at_call 40; (with_reducible refine (integers_ok a ⟨#[48]⟩ ⟨#[48]⟩ x 0 0 _ HA.out num_zero num_zero).mono ?_); rintro e W ⟨rfl, hbz⟩; have HB := Lib.hid (below_then' HB.out hbz); clear hbz)
  | (go_at_call 36; (with_reducible refine (law_tobase_i a x (base % 35 + 2) t _ b HBI.out HA.out HB2.out.1 HB2.out.2 HTT.out (HT.out.below HB.out)).mono ?_); rintro e W ⟨rfl, hbz⟩; have HB := Lib.hid (below_then' HB.out hbz); clear hbz)
  | (go_at_call 37; (with_reducible refine (law_frombase_i t x (base % 35 + 2) a 0 _ b HBI.out HB2.out.1 HB2.out.2 HTS.out HTF.out HTV.out HXA.out.1 HXA.out.2 (HT.out.below HB.out)).mono ?_); rintro e W ⟨rfl, hbz⟩; have HB := Lib.hid (below_then' HB.out hbz); clear hbz)
  | (go_at_call 36; (with_reducible refine (law_tobase_i a x 10 a _ 10 rfl HA.out (by decide) (by decide) HTEN.out (HT.out.below HB.out)).mono ?_); rintro e W ⟨rfl, hbz⟩; have HB := Lib.hid (below_then' HB.out hbz); clear hbz)
  | (go_at_call 37; (with_reducible refine (law_frombase_i s z (base % 35 + 2) y 3 _ b HBI.out HB2.out.1 HB2.out.2 HSS.out HF.out HZZ.out HY.out HZ.out (HT.out.below HB.out)).mono ?_); rintro e W ⟨rfl, hbz⟩; have HB := Lib.hid (below_then' HB.out hbz); clear hbz)
  | (go_at_call 18; (with_reducible refine (HS.out _ (HT.out.below HB.out)).mono ?_); rintro e W ⟨rfl, hbz⟩; have HB := Lib.hid (below_then' HB.out hbz); clear hbz))
  all_goals
    go_ret
    exact ⟨rfl, HB.out⟩

set_option maxRecDepth 100000 in
set_option maxHeartbeats 8000000 in
theorem back_ok (hsan : San) (a s : ByteArray) (x base : Int) (b : Nat) (w : World) (ht : Tabs w) (ha : NumL a.data.toList x) (hs : s.size ≤ 700) (h0 : 0 ≤ base) (h1 : base ≤ 255) (hb : base % 35 + 2 = (b : Int)) (hf : formB b s.data.toList) (hz : ern (fromB b s.data.toList) = 0) :
    Calls Tryz.prog 8 #[.string a, .string s, .int .u8 base] w fun e w' => e = .returned (.bool true) ∧ Below w.heap.size w w' := by
  have HT := Lib.hid ht
  have HA := Lib.hid ha
  have HB : Hid (Below w.heap.size w w) := Below.refl _ _
  have HS : Hid (∀ w : World, Tabs w → Calls Tryz.prog 18 #[] w fun e w' => e = .returned (.bool true) ∧ Below w.heap.size w w') := hsan
  have hl : decide (700 < (s.size : Int)) = false := by simp; omega
  have HB2 := Lib.hid (show 2 ≤ b ∧ b ≤ 36 from by omega)
  obtain ⟨t, htt⟩ : ∃ t : ByteArray, ⟨(btext b x).toArray⟩ = t := ⟨_, rfl⟩
  have htd : t.data.toList = btext b x := by rw [← htt]
  have HTT := Lib.hid htt
  have HTS := Lib.hid (show t.size ≤ 1000 from by
    have h := btext_len HB2.out.1 ha.2
    rw [← htd, Array.length_toList] at h
    exact h)
  have HTF : Hid (formB b t.data.toList) := by show formB _ _; rw [htd]; exact (formB_btext HB2.out.1 HB2.out.2 x).1
  have HTV : Hid (fromB b t.data.toList = x) := by show _ = _; rw [htd]; exact (formB_btext HB2.out.1 HB2.out.2 x).2
  have HXA := Lib.hid (num_txt ha)
  have HTEN : Hid ((⟨(btext 10 x).toArray⟩ : ByteArray) = a) := by
    show _ = _
    rw [btext_ten, ← ha.1]
  have HSS := Lib.hid (show s.size ≤ 1000 from by omega)
  have HF := Lib.hid hf
  have hb0 : 0 ≤ base % 35 := by omega
  have hb1 : base % 35 ≤ 34 := by omega
  have HBI := Lib.hid hb
  obtain ⟨z, hzz⟩ : ∃ z, fromB b s.data.toList = z := ⟨_, rfl⟩
  rw [hzz] at hz
  have HZ := Lib.hid hz
  have HZZ := Lib.hid hzz
  obtain ⟨y, hy⟩ : ∃ y, txt z = y := ⟨_, rfl⟩
  have HY := Lib.hid hy
  have HNY : Hid (NumL y.data.toList z) := num_of hy hz rfl
  have HU : Hid ((⟨(btext b z).toArray⟩ : ByteArray) = s) := by
    show _ = _
    rw [← hzz, btext_fromB HB2.out.1 HB2.out.2 hf]
  clear ht ha hsan hs hb htt htd hf hz hzz hy
  go_enter Tryz.func8, Tryz.ntmps8
  go_wp2_with (first
  | (go_at_call 40; (with_reducible refine (integers_ok a ⟨#[48]⟩ ⟨#[48]⟩ x 0 0 _ HA.out num_zero num_zero).mono ?_); rintro e W ⟨rfl, hbz⟩; have HB := Lib.hid (below_then' HB.out hbz); clear hbz)
  | (go_at_call 36; (with_reducible refine (law_tobase_i a x (base % 35 + 2) t _ b HBI.out HA.out HB2.out.1 HB2.out.2 HTT.out (HT.out.below HB.out)).mono ?_); rintro e W ⟨rfl, hbz⟩; have HB := Lib.hid (below_then' HB.out hbz); clear hbz)
  | (go_at_call 37; (with_reducible refine (law_frombase_i t x (base % 35 + 2) a 0 _ b HBI.out HB2.out.1 HB2.out.2 HTS.out HTF.out HTV.out HXA.out.1 HXA.out.2 (HT.out.below HB.out)).mono ?_); rintro e W ⟨rfl, hbz⟩; have HB := Lib.hid (below_then' HB.out hbz); clear hbz)
  | (go_at_call 36; (with_reducible refine (law_tobase_i a x 10 a _ 10 rfl HA.out (by decide) (by decide) HTEN.out (HT.out.below HB.out)).mono ?_); rintro e W ⟨rfl, hbz⟩; have HB := Lib.hid (below_then' HB.out hbz); clear hbz)
  | (go_at_call 37; (with_reducible refine (law_frombase_i s z (base % 35 + 2) y 0 _ b HBI.out HB2.out.1 HB2.out.2 HSS.out HF.out HZZ.out HY.out HZ.out (HT.out.below HB.out)).mono ?_); rintro e W ⟨rfl, hbz⟩; have HB := Lib.hid (below_then' HB.out hbz); clear hbz)
  | (go_at_call 36; (with_reducible refine (law_tobase_i y z (base % 35 + 2) s _ b HBI.out HNY.out HB2.out.1 HB2.out.2 HU.out (HT.out.below HB.out)).mono ?_); rintro e W ⟨rfl, hbz⟩; have HB := Lib.hid (below_then' HB.out hbz); clear hbz)
  | (go_at_call 18; (with_reducible refine (HS.out _ (HT.out.below HB.out)).mono ?_); rintro e W ⟨rfl, hbz⟩; have HB := Lib.hid (below_then' HB.out hbz); clear hbz))
  all_goals
    go_ret
    exact ⟨rfl, HB.out⟩

/-- The walk of NumberBack. -/
theorem back_walk (hsan : San) (a s : ByteArray) (base : Int) (h0 : 0 ≤ base) (h1 : base ≤ 255) (w : World) (ht : Tabs w) :
    Calls Tryz.prog 8 #[.string a, .string s, .int .u8 base] w fun e w' => e = .returned (.bool true) ∧ Below w.heap.size w w' := by
  by_cases h : ∃ x, NumL a.data.toList x
  · obtain ⟨x, ha⟩ := h
    by_cases hs : s.size ≤ 700
    · obtain ⟨b, hb⟩ : ∃ b : Nat, base % 35 + 2 = (b : Int) := ⟨(base % 35 + 2).toNat, by omega⟩
      by_cases hf : formB b s.data.toList
      · rcases ern_or (fromB b s.data.toList) with hz | hz
        · exact back_ok hsan a s x base b w ht ha hs h0 h1 hb hf hz
        · exact back_big hsan a s x base b w ht ha hs h0 h1 hb hf hz
      · exact back_form hsan a s x base b w ht ha hs h0 h1 hb hf
    · exact back_long hsan a s x base w ht ha (by omega)
  · exact back_bad hsan a s base w ht fun ⟨x, _, _, hx, _⟩ => h ⟨x, hx⟩

end Go.Proofs.YtbjgpbdkofadiaaGreatDoor
