/- The law NumberPowers. -/
import Derived.Test.YtbjgpbdkofadiaaGreatDoorLawB
namespace Go.Proofs.YtbjgpbdkofadiaaGreatDoor
set_option linter.unusedVariables false
set_option linter.unusedSimpArgs false
open Go.RowKit Go.Shelf Go.Proofs

theorem pow_zero_big {x : Int} {i k : Nat} (h : ¬ (x ^ i).natAbs < 10 ^ 200) : ern (x ^ (i + k)) = 3 := by
  refine if_neg fun h2 => h ?_
  by_cases hx : x = 0
  · subst hx
    rcases Nat.eq_zero_or_pos i with rfl | hi
    · decide
    · rw [Int.zero_pow (by omega)]; decide
  · rw [Int.natAbs_pow] at h2 ⊢
    exact Nat.lt_of_le_of_lt (Nat.pow_le_pow_right (by omega) (by omega)) h2
theorem ern_three {z : Int} (h : ern z = 3) : ¬ z.natAbs < 10 ^ 200 := fun h2 => by
  rw [ern_fit h2] at h; cases h
theorem pow_sum (x : Int) {i k : Int} (hi : 0 ≤ i) (hk : 0 ≤ k) : x ^ (i + k).toNat = x ^ i.toNat * x ^ k.toNat := by
  rw [Int.toNat_add hi hk, Int.pow_add]
theorem pow_prod (x : Int) {i k : Int} (hi : 0 ≤ i) (hk : 0 ≤ k) : x ^ (i * k).toNat = (x ^ i.toNat) ^ k.toNat := by
  rw [Int.toNat_mul hi hk, Int.pow_mul]

set_option maxRecDepth 100000 in
set_option maxHeartbeats 1000000 in
theorem numberpowers_bad (hsan : San) (a : ByteArray) (m n : Int) (hm0 : 0 ≤ m) (hm : m ≤ 255) (hn0 : 0 ≤ n) (hn : n ≤ 255) (w : World) (ht : Tabs w) (h : ¬ ∃ x y z, NumL a.data.toList x ∧ NumL (ByteArray.mk #[48]).data.toList y ∧ NumL (ByteArray.mk #[48]).data.toList z) :
    Calls Tryz.prog 7 #[.string a, .int .u8 m, .int .u8 n] w fun e w' => e = .returned (.bool true) ∧ Below w.heap.size w w' := by
  have HT := Lib.hid ht
  have HN := Lib.hid h
  have HB : Hid (Below w.heap.size w w) := Below.refl _ _
  have HS : Hid (∀ w : World, Tabs w → Calls Tryz.prog 18 #[] w fun e w' => e = .returned (.bool true) ∧ Below w.heap.size w w') := hsan
  clear ht h hsan
  go_enter Tryz.func7, Tryz.ntmps7
  go_wp2_with (first
  | (go_at_call 40; (with_reducible refine (integers_bad a ⟨#[48]⟩ ⟨#[48]⟩ _ HN.out).mono ?_); rintro e W ⟨rfl, hbz⟩; have HB := Lib.hid (below_then' HB.out hbz); clear hbz)
  | (go_at_call 18; (with_reducible refine (HS.out _ (HT.out.below HB.out)).mono ?_); rintro e W ⟨rfl, hbz⟩; have HB := Lib.hid (below_then' HB.out hbz); clear hbz))
  go_ret
  exact ⟨rfl, HB.out⟩

set_option maxRecDepth 100000 in
set_option maxHeartbeats 8000000 in
theorem powers_ok (hsan : San) (a : ByteArray) (x m n : Int) (hm0 : 0 ≤ m) (hm : m ≤ 255) (hn0 : 0 ≤ n) (hn : n ≤ 255) (w : World) (ht : Tabs w) (ha : NumL a.data.toList x) :
    Calls Tryz.prog 7 #[.string a, .int .u8 m, .int .u8 n] w fun e w' => e = .returned (.bool true) ∧ Below w.heap.size w w' := by
  have HT := Lib.hid ht
  have HA := Lib.hid ha
  have HB : Hid (Below w.heap.size w w) := Below.refl _ _
  have HS : Hid (∀ w : World, Tabs w → Calls Tryz.prog 18 #[] w fun e w' => e = .returned (.bool true) ∧ Below w.heap.size w w') := hsan
  clear ht ha hsan
  have hi0 : 0 ≤ m % 20 := by omega
  have hi1 : m % 20 ≤ 19 := by omega
  have hk0 : 0 ≤ n % 20 := by omega
  have hk1 : n % 20 ≤ 19 := by omega
  obtain ⟨i, hi⟩ : ∃ i, m % 20 = i := ⟨_, rfl⟩
  obtain ⟨k, hk⟩ : ∃ k, n % 20 = k := ⟨_, rfl⟩
  rw [hi] at hi0 hi1
  rw [hk] at hk0 hk1
  have hp0 : 0 ≤ i * k := Int.mul_nonneg hi0 hk0
  have hp1 : i * k ≤ 19 * 19 := Int.mul_le_mul hi1 hk1 hk0 (by decide)
  have HI : Hid (0 ≤ i ∧ i ≤ 9223372036854775807 ∧ 0 ≤ k ∧ k ≤ 9223372036854775807 ∧ 0 ≤ i + k ∧ i + k ≤ 9223372036854775807 ∧ 0 ≤ i * k ∧ i * k ≤ 9223372036854775807) := ⟨hi0, by omega, hk0, by omega, by omega, by omega, hp0, Int.le_trans hp1 (by decide)⟩
  obtain ⟨s1, hs1⟩ : ∃ s, txt (x ^ i.toNat) = s := ⟨_, rfl⟩
  obtain ⟨e1, he1⟩ : ∃ e, ern (x ^ i.toNat) = e := ⟨_, rfl⟩
  have H1 := Lib.hid (And.intro hs1 he1)
  have O1 := Lib.hid (he1 ▸ ern_or (x ^ i.toNat))
  clear hs1 he1
  obtain ⟨s2, hs2⟩ : ∃ s, txt (x ^ k.toNat) = s := ⟨_, rfl⟩
  obtain ⟨e2, he2⟩ : ∃ e, ern (x ^ k.toNat) = e := ⟨_, rfl⟩
  have H2 := Lib.hid (And.intro hs2 he2)
  have O2 := Lib.hid (he2 ▸ ern_or (x ^ k.toNat))
  clear hs2 he2
  obtain ⟨s3, hs3⟩ : ∃ s, txt (x ^ (i + k).toNat) = s := ⟨_, rfl⟩
  obtain ⟨e3, he3⟩ : ∃ e, ern (x ^ (i + k).toNat) = e := ⟨_, rfl⟩
  have H3 := Lib.hid (And.intro hs3 he3)
  have O3 := Lib.hid (he3 ▸ ern_or (x ^ (i + k).toNat))
  clear hs3 he3
  obtain ⟨s5, hs5⟩ : ∃ s, txt ((x ^ i.toNat) ^ k.toNat) = s := ⟨_, rfl⟩
  obtain ⟨e5, he5⟩ : ∃ e, ern ((x ^ i.toNat) ^ k.toNat) = e := ⟨_, rfl⟩
  have H5 := Lib.hid (And.intro hs5 he5)
  have O5 := Lib.hid (he5 ▸ ern_or ((x ^ i.toNat) ^ k.toNat))
  clear hs5 he5
  have H3b := Lib.hid (show txt (x ^ i.toNat * x ^ k.toNat) = s3 ∧ ern (x ^ i.toNat * x ^ k.toNat) = e3 from by rw [← pow_sum x HI.out.1 HI.out.2.2.1]; exact H3.out)
  have H5b := Lib.hid (show txt (x ^ (i * k).toNat) = s5 ∧ ern (x ^ (i * k).toNat) = e5 from by rw [pow_prod x HI.out.1 HI.out.2.2.1]; exact H5.out)
  have HE1 : Hid (e1 = 3 → e3 = 3) := fun h => by
    rw [← H3.out.2, Int.toNat_add HI.out.1 HI.out.2.2.1]; exact pow_zero_big (ern_three (H1.out.2.trans h))
  have HE2 : Hid (e2 = 3 → e3 = 3) := fun h => by
    rw [← H3.out.2, Int.add_comm, Int.toNat_add HI.out.2.2.1 HI.out.1]; exact pow_zero_big (ern_three (H2.out.2.trans h))
  rcases O1.out with h1 | h1 <;> rcases O2.out with h2 | h2 <;> rcases O3.out with h3 | h3 <;> rcases O5.out with h5 | h5
  all_goals
    (try (exfalso; have := HE1.out h1; omega))
    (try (exfalso; have := HE2.out h2; omega))
  all_goals
    (try have HN1 : Hid (NumL s1.data.toList (x ^ i.toNat)) := num_of H1.out.1 H1.out.2 h1)
    (try have HN2 : Hid (NumL s2.data.toList (x ^ k.toNat)) := num_of H2.out.1 H2.out.2 h2)
    subst h1 h2 h3 h5
    go_enter Tryz.func7, Tryz.ntmps7
    go_wp2_with (first
    | (go_at_call 40; (with_reducible refine (integers_ok a ⟨#[48]⟩ ⟨#[48]⟩ x 0 0 _ HA.out num_zero num_zero).mono ?_); rintro e W ⟨rfl, hbz⟩; have HB := Lib.hid (below_then' HB.out hbz); clear hbz)
    | (go_at_call 20; (with_reducible refine (law_pow a x i s1 _ _ HA.out HI.out.1 HI.out.2.1 H1.out.1 H1.out.2 (HT.out.below HB.out)).mono ?_); rintro e W ⟨rfl, hbz⟩; have HB := Lib.hid (below_then' HB.out hbz); clear hbz)
    | (go_at_call 20; (with_reducible refine (law_pow a x k s2 _ _ HA.out HI.out.2.2.1 HI.out.2.2.2.1 H2.out.1 H2.out.2 (HT.out.below HB.out)).mono ?_); rintro e W ⟨rfl, hbz⟩; have HB := Lib.hid (below_then' HB.out hbz); clear hbz)
    | (go_at_call 20; (with_reducible refine (law_pow a x (i + k) s3 _ _ HA.out HI.out.2.2.2.2.1 HI.out.2.2.2.2.2.1 H3.out.1 H3.out.2 (HT.out.below HB.out)).mono ?_); rintro e W ⟨rfl, hbz⟩; have HB := Lib.hid (below_then' HB.out hbz); clear hbz)
    | (go_at_call 19; (with_reducible refine (law_mul s1 s2 (x ^ i.toNat) (x ^ k.toNat) s3 _ _ HN1.out HN2.out H3b.out.1 H3b.out.2 (HT.out.below HB.out)).mono ?_); rintro e W ⟨rfl, hbz⟩; have HB := Lib.hid (below_then' HB.out hbz); clear hbz)
    | (go_at_call 20; (with_reducible refine (law_pow s1 (x ^ i.toNat) k s5 _ _ HN1.out HI.out.2.2.1 HI.out.2.2.2.1 H5.out.1 H5.out.2 (HT.out.below HB.out)).mono ?_); rintro e W ⟨rfl, hbz⟩; have HB := Lib.hid (below_then' HB.out hbz); clear hbz)
    | (go_at_call 20; (with_reducible refine (law_pow a x (i * k) s5 _ _ HA.out HI.out.2.2.2.2.2.2.1 HI.out.2.2.2.2.2.2.2 H5b.out.1 H5b.out.2 (HT.out.below HB.out)).mono ?_); rintro e W ⟨rfl, hbz⟩; have HB := Lib.hid (below_then' HB.out hbz); clear hbz)
    | (go_at_call 41; (with_reducible refine (same_c s5 s5 _ _ _ (.inl rfl)).mono ?_); rintro e W ⟨rfl, rfl⟩)
    | (go_at_call 18; (with_reducible refine (HS.out _ (HT.out.below HB.out)).mono ?_); rintro e W ⟨rfl, hbz⟩; have HB := Lib.hid (below_then' HB.out hbz); clear hbz))
    all_goals
      go_ret
      exact ⟨rfl, HB.out⟩

/-- The walk of NumberPowers. -/
theorem powers_walk (hsan : San) (a : ByteArray) (m n : Int) (hm0 : 0 ≤ m) (hm : m ≤ 255) (hn0 : 0 ≤ n) (hn : n ≤ 255) (w : World) (ht : Tabs w) :
    Calls Tryz.prog 7 #[.string a, .int .u8 m, .int .u8 n] w fun e w' => e = .returned (.bool true) ∧ Below w.heap.size w w' := by
  by_cases h : ∃ x, NumL a.data.toList x
  · obtain ⟨x, ha⟩ := h
    exact powers_ok hsan a x m n hm0 hm hn0 hn w ht ha
  · exact numberpowers_bad hsan a m n hm0 hm hn0 hn w ht fun ⟨x, _, _, hx, _⟩ => h ⟨x, hx⟩

end Go.Proofs.YtbjgpbdkofadiaaGreatDoor
