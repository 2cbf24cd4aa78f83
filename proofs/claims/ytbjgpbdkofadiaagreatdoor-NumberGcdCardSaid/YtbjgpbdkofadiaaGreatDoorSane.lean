/- The examples that sanity looks at. -/
import Derived.Test.YtbjgpbdkofadiaaGreatDoorInts
import Derived.Test.YtbjgpbdkofadiaaGreatDoorQuo
import Derived.Test.YtbjgpbdkofadiaaGreatDoorPow
import Derived.Test.YtbjgpbdkofadiaaGreatDoorToBase
import Derived.Test.YtbjgpbdkofadiaaGreatDoorFromBase
import Derived.Test.YtbjgpbdkofadiaaGreatDoorRootF
namespace Go.Proofs.YtbjgpbdkofadiaaGreatDoor
set_option linter.unusedVariables false
set_option linter.unusedSimpArgs false
open Go.RowKit Go.Shelf Go.Proofs

/-- i nines. -/
def nin (i : Nat) : ByteArray := ⟨(List.replicate i (57 : UInt8)).toArray⟩
theorem nin_size (i : Nat) : (nin i).size = i := by
  show (List.replicate i (57 : UInt8)).toArray.size = i
  simp
theorem nin_succ (i : Nat) : nin i ++ ⟨#[57]⟩ = nin (i + 1) := by
  unfold nin
  apply ByteArray.ext
  rw [ByteArray.data_append]
  apply Array.ext'
  simp [List.replicate_succ']

set_option maxHeartbeats 1000000 in
theorem nines_c (n : Nat) (hn : n ≤ 1000) (w : World) : Calls Tryz.prog 54 #[.int .i64 (n : Int)] w fun e w' => e = .returned (.string (nin n)) ∧ w = w' := by
  go_enter Tryz.func54, Tryz.ntmps54
  go_wp2
  go_loopg [3, 4] n (fun gk sv iv wr => ∃ i : Nat, sv = .string (nin i) ∧ iv = .int .i64 i ∧ i + gk = n ∧ wr = w)
  case atStart => exact ⟨0, rfl, rfl, by omega, rfl⟩
  case round =>
    obtain ⟨i, rfl, rfl, hi, rfl⟩ := hrel
    have HGK := Lib.hid hi
    by_cases hlt : i < n
    · have HLT := Lib.hid hlt
      have hi9 : i < 9223372036854775807 := by omega
      have hsz := nin_size i
      clear hi hlt
      go_wp2
      go_roundg (gk - 1)
      case measure => have h1 := HGK.out; have h2 := HLT.out; omega
      case rel => exact ⟨i + 1, by rw [nin_succ], by simp, by have h1 := HGK.out; have h2 := HLT.out; omega, rfl⟩
    · have hin : i = n := by omega
      subst hin
      go_wp2
      go_ret
      exact ⟨rfl, rfl⟩

theorem nl_lit {l : List UInt8} {z : Int} (h1 : Lib.itoa z = l) (h2 : z.natAbs < 10 ^ 200) : NumL l z := ⟨h1.symm, h2⟩
theorem nl_m7 : NumL [45, 55] (-7) := nl_lit (by decide +kernel) (by decide)
theorem nl_2 : NumL [50] 2 := nl_lit (by decide +kernel) (by decide)
theorem nl_99 : NumL [57, 57] 99 := nl_lit (by decide +kernel) (by decide)
theorem nl_m255 : NumL [45, 50, 53, 53] (-255) := nl_lit (by decide +kernel) (by decide)
theorem nl_12 : NumL [49, 50] 12 := nl_lit (by decide +kernel) (by decide)
theorem nl_18 : NumL [49, 56] 18 := nl_lit (by decide +kernel) (by decide)
theorem nl_m12 : NumL [45, 49, 50] (-12) := nl_lit (by decide +kernel) (by decide)
theorem nl_007 : ¬ ∃ z, NumL [48, 48, 55] z := by
  rintro ⟨z, h1, h2⟩
  unfold Lib.itoa at h1
  split at h1
  · simp at h1
  · have h3 := congrArg decVal h1
    rw [decVal_decDigits] at h3
    have h4 : decVal [48, 48, 55] = 7 := by decide
    rw [← h3, h4] at h1
    exact absurd h1 (by decide +kernel)
theorem nl_nin : NumL (nin 200).data.toList (10 ^ 200 - 1) := nl_lit (by decide +kernel) (by decide +kernel)

theorem quo_s (w : World) (ht : Tabs w) : Calls Tryz.prog 27 #[.string ⟨#[45, 55]⟩, .string ⟨#[50]⟩] w fun e w' => e = .returned (.tuple #[.string ⟨#[45, 51]⟩, .string ⟨#[45, 49]⟩, .int .i64 0]) ∧ Below w.heap.size w w' := by
  refine (numQuo_c _ _ w ht).mono ?_
  rintro e w' ⟨⟨x, y, hx, hy, rfl⟩ | ⟨hn, _⟩, hb⟩
  · obtain rfl := itoa_inj (hx.1.symm.trans nl_m7.1)
    obtain rfl := itoa_inj (hy.1.symm.trans nl_2.1)
    refine ⟨?_, hb⟩
    show Ending.returned (.tuple #[.string (tx (-3)), .string (tx (-1)), .int .i64 0]) = _
    rw [show tx (-3) = ⟨#[45, 51]⟩ from by decide +kernel, show tx (-1) = ⟨#[45, 49]⟩ from by decide +kernel]
  · exact absurd ⟨⟨_, nl_m7⟩, _, nl_2⟩ hn
theorem floor_s (w : World) (ht : Tabs w) : Calls Tryz.prog 28 #[.string ⟨#[45, 55]⟩, .string ⟨#[50]⟩] w fun e w' => e = .returned (.tuple #[.string ⟨#[45, 52]⟩, .string ⟨#[49]⟩, .int .i64 0]) ∧ Below w.heap.size w w' := by
  refine (numFloor_c _ _ w ht).mono ?_
  rintro e w' ⟨⟨x, y, hx, hy, rfl⟩ | ⟨hn, _⟩, hb⟩
  · obtain rfl := itoa_inj (hx.1.symm.trans nl_m7.1)
    obtain rfl := itoa_inj (hy.1.symm.trans nl_2.1)
    refine ⟨?_, hb⟩
    show Ending.returned (.tuple #[.string (tx (-4)), .string (tx 1), .int .i64 0]) = _
    rw [show tx (-4) = ⟨#[45, 52]⟩ from by decide +kernel, show tx 1 = ⟨#[49]⟩ from by decide +kernel]
  · exact absurd ⟨⟨_, nl_m7⟩, _, nl_2⟩ hn
theorem mul_s (w : World) (ht : Tabs w) : Calls Tryz.prog 19 #[.string (nin 200), .string ⟨#[50]⟩] w (Ans ⟨#[]⟩ 3 w) := by
  refine (numMul_c _ _ w ht).mono ?_
  intro e w' h
  exact ans_mk (bi_at h nl_nin nl_2) (if_neg (by decide)) (if_neg (by decide))
theorem pow_s (w : World) (ht : Tabs w) : Calls Tryz.prog 20 #[.string ⟨#[50]⟩, .int .i64 100] w (Ans ⟨#[49, 50, 54, 55, 54, 53, 48, 54, 48, 48, 50, 50, 56, 50, 50, 57, 52, 48, 49, 52, 57, 54, 55, 48, 51, 50, 48, 53, 51, 55, 54]⟩ 0 w) := by
  refine (numPow_c _ 100 (by decide) w ht).mono ?_
  intro e w' h
  have h1 := un_at h nl_2
  rw [show powOut 2 100 = textOut 1267650600228229401496703205376 from rfl] at h1
  exact ans_mk h1 (by decide +kernel) (by decide +kernel)
theorem root_s (w : World) (ht : Tabs w) : Calls Tryz.prog 33 #[.string ⟨#[57, 57]⟩] w (Ans ⟨#[57]⟩ 0 w) := by
  refine (numRoot_c _ w ht).mono ?_
  intro e w' h
  have h1 := un_at h nl_99
  rw [show rootOut 99 = textOut 9 from by rw [rootOut, if_neg (by decide), show root (99 : Int).natAbs = 9 from root_eq (by decide) (by decide)]; rfl] at h1
  exact ans_mk h1 (by decide +kernel) (by decide +kernel)
theorem tobase_s (w : World) (ht : Tabs w) : Calls Tryz.prog 36 #[.string ⟨#[45, 50, 53, 53]⟩, .int .i64 16] w (Ans ⟨#[45, 102, 102]⟩ 0 w) := by
  refine (numToBase_c _ 16 (by decide) (by decide) w ht).mono ?_
  intro e w' h
  obtain ⟨rfl, hb⟩ := un_at h nl_m255
  refine ⟨?_, hb⟩
  show Ending.returned (.tuple #[.string ⟨(btext 16 (-255)).toArray⟩, .int .i64 0]) = _
  rw [show btext 16 (-255) = [45, 102, 102] from by decide +kernel]
theorem frombase_s (w : World) (ht : Tabs w) : Calls Tryz.prog 37 #[.string ⟨#[122, 122]⟩, .int .i64 36] w (Ans ⟨#[49, 50, 57, 53]⟩ 0 w) := by
  refine (numFromBase_c _ 36 (by decide) (by decide) (by decide) w ht).mono ?_
  intro e w' h
  rcases h with ⟨_, rfl, hb⟩ | ⟨hn, _⟩
  · refine ⟨?_, hb⟩
    show Ending.returned ((textOut (fromB 36 [122, 122])).res (.string ⟨#[]⟩)) = _
    rw [show fromB 36 [122, 122] = 1295 from by decide +kernel, textOut_res]
    rw [show txt 1295 = ⟨#[49, 50, 57, 53]⟩ from by decide +kernel, show ern 1295 = 0 from by decide +kernel]
  · refine absurd ?_ hn
    refine ⟨by decide, by decide, ?_⟩
    intro c hc
    have : c = 122 := by simpa [Lib.trimPrefix, Lib.hasPrefix] using hc
    subst this
    exact ⟨35, by decide, by decide⟩
theorem valid007_s (w : World) : Calls Tryz.prog 52 #[.string ⟨#[48, 48, 55]⟩] w fun e w' => e = .returned (.bool false) ∧ Below w.heap.size w w' :=
  valid_at _ false w ⟨fun h => absurd h (by decide), fun h => absurd h nl_007⟩
theorem validm12_s (w : World) : Calls Tryz.prog 52 #[.string ⟨#[45, 49, 50]⟩] w fun e w' => e = .returned (.bool true) ∧ Below w.heap.size w w' :=
  valid_at _ true w ⟨fun _ => ⟨_, nl_m12⟩, fun _ => rfl⟩

/-- What Gcd says of 12 and 18. -/
def GcdS : Prop := ∀ w : World, Tabs w → Calls Tryz.prog 32 #[.string ⟨#[49, 50]⟩, .string ⟨#[49, 56]⟩] w fun e w' => e = .returned (.tuple #[.string ⟨#[54]⟩, .string ⟨#[50]⟩, .string ⟨#[45, 49]⟩, .int .i64 0]) ∧ Below w.heap.size w w'

set_option maxRecDepth 100000 in
set_option maxHeartbeats 4000000 in
theorem sanity_g (hg : GcdS) : San := by
  intro w ht
  have HT := Lib.hid ht
  have HG := Lib.hid hg
  have HB : Hid (Below w.heap.size w w) := Below.refl _ _
  clear ht hg
  go_enter Tryz.func18, Tryz.ntmps18
  go_wp2_with (first
  | (go_at_call 27; (refine (quo_s _ (HT.out.below HB.out)).mono ?_); rintro e W ⟨rfl, hbz⟩; have HB := Lib.hid (below_then' HB.out hbz); clear hbz)
  | (go_at_call 28; (refine (floor_s _ (HT.out.below HB.out)).mono ?_); rintro e W ⟨rfl, hbz⟩; have HB := Lib.hid (below_then' HB.out hbz); clear hbz)
  | (go_at_call 54; (refine (nines_c 200 (by decide) _).mono ?_); rintro e W ⟨rfl, rfl⟩)
  | (go_at_call 19; (refine (mul_s _ (HT.out.below HB.out)).mono ?_); rintro e W ⟨rfl, hbz⟩; have HB := Lib.hid (below_then' HB.out hbz); clear hbz)
  | (go_at_call 20; (refine (pow_s _ (HT.out.below HB.out)).mono ?_); rintro e W ⟨rfl, hbz⟩; have HB := Lib.hid (below_then' HB.out hbz); clear hbz)
  | (go_at_call 32; (refine (HG.out _ (HT.out.below HB.out)).mono ?_); rintro e W ⟨rfl, hbz⟩; have HB := Lib.hid (below_then' HB.out hbz); clear hbz)
  | (go_at_call 33; (refine (root_s _ (HT.out.below HB.out)).mono ?_); rintro e W ⟨rfl, hbz⟩; have HB := Lib.hid (below_then' HB.out hbz); clear hbz)
  | (go_at_call 36; (refine (tobase_s _ (HT.out.below HB.out)).mono ?_); rintro e W ⟨rfl, hbz⟩; have HB := Lib.hid (below_then' HB.out hbz); clear hbz)
  | (go_at_call 37; (refine (frombase_s _ (HT.out.below HB.out)).mono ?_); rintro e W ⟨rfl, hbz⟩; have HB := Lib.hid (below_then' HB.out hbz); clear hbz)
  | (go_at_call 52; (with_reducible refine (valid007_s _).mono ?_); rintro e W ⟨rfl, hbz⟩; have HB := Lib.hid (below_then' HB.out hbz); clear hbz)
  | (go_at_call 52; (with_reducible refine (validm12_s _).mono ?_); rintro e W ⟨rfl, hbz⟩; have HB := Lib.hid (below_then' HB.out hbz); clear hbz))
  go_ret
  exact ⟨rfl, HB.out⟩

end Go.Proofs.YtbjgpbdkofadiaaGreatDoor
