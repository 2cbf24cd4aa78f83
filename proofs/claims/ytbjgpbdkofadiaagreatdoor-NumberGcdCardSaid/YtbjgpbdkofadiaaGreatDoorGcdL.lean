/- The law NumberGcd. -/
import Derived.Test.YtbjgpbdkofadiaaGreatDoorLawB
import Derived.Test.YtbjgpbdkofadiaaGreatDoorGcdLA
import Derived.Test.YtbjgpbdkofadiaaGreatDoorGcdLB
namespace Go.Proofs.YtbjgpbdkofadiaaGreatDoor
set_option linter.unusedVariables false
set_option linter.unusedSimpArgs false
open Go.RowKit Go.Shelf Go.Proofs

set_option maxRecDepth 100000 in
set_option maxHeartbeats 1000000 in
theorem numbergcd_bad (hsan : San) (a b c : ByteArray) (w : World) (ht : Tabs w) (h : ¬ ∃ x y z, NumL a.data.toList x ∧ NumL b.data.toList y ∧ NumL c.data.toList z) :
    Calls Tryz.prog 12 #[.string a, .string b, .string c] w fun e w' => e = .returned (.bool true) ∧ Below w.heap.size w w' := by
  have HT := Lib.hid ht
  have HN := Lib.hid h
  have HB : Hid (Below w.heap.size w w) := Below.refl _ _
  have HS : Hid (∀ w : World, Tabs w → Calls Tryz.prog 18 #[] w fun e w' => e = .returned (.bool true) ∧ Below w.heap.size w w') := hsan
  clear ht h hsan
  go_enter Tryz.func12, Tryz.ntmps12
  go_wp2_with (first
  | (go_at_call 40; (with_reducible refine (integers_bad a b c _ HN.out).mono ?_); rintro e W ⟨rfl, hbz⟩; have HB := Lib.hid (below_then' HB.out hbz); clear hbz)
  | (go_at_call 18; (with_reducible refine (HS.out _ (HT.out.below HB.out)).mono ?_); rintro e W ⟨rfl, hbz⟩; have HB := Lib.hid (below_then' HB.out hbz); clear hbz))
  go_ret
  exact ⟨rfl, HB.out⟩

/-- The walk of NumberGcd. -/
theorem gcd_walk (hsan : San) (a b c : ByteArray) (w : World) (ht : Tabs w) :
    Calls Tryz.prog 12 #[.string a, .string b, .string c] w fun e w' => e = .returned (.bool true) ∧ Below w.heap.size w w' := by
  by_cases h : ∃ x y z, NumL a.data.toList x ∧ NumL b.data.toList y ∧ NumL c.data.toList z
  · obtain ⟨x, y, z, ha, hb, hc⟩ := h
    by_cases hg : (Int.gcd x y : Int) = 0
    · exact gcd_zero hsan a b c x y z w ht ha hb hc hg
    · by_cases hy : y = 0 <;> by_cases hz : z = 0
      · exact gcd_Az hsan a b c x y z w ht ha hb hc hg hy hz
      · by_cases q1 : x.tmod z = 0
        · by_cases q2 : y.tmod z = 0
          · exact gcd_An hsan a b c x y z w ht ha hb hc hg hy hz q1 q2
          · exact gcd_As hsan a b c x y z w ht ha hb hc hg hy hz q1 q2
        · exact gcd_Ar hsan a b c x y z w ht ha hb hc hg hy hz q1
      · exact gcd_Bz hsan a b c x y z w ht ha hb hc hg hy hz
      · by_cases q1 : x.tmod z = 0
        · by_cases q2 : y.tmod z = 0
          · exact gcd_Bn hsan a b c x y z w ht ha hb hc hg hy hz q1 q2
          · exact gcd_Bs hsan a b c x y z w ht ha hb hc hg hy hz q1 q2
        · exact gcd_Br hsan a b c x y z w ht ha hb hc hg hy hz q1
  · exact numbergcd_bad hsan a b c w ht h

end Go.Proofs.YtbjgpbdkofadiaaGreatDoor
