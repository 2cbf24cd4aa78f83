/- What Gcd says of 12 and 18. -/
import Derived.Test.YtbjgpbdkofadiaaGreatDoorGcdOp
import Derived.Test.YtbjgpbdkofadiaaGreatDoorSane
namespace Go.Proofs.YtbjgpbdkofadiaaGreatDoor
set_option linter.unusedVariables false
set_option linter.unusedSimpArgs false
open Go.RowKit Go.Shelf Go.Proofs

theorem gcd_12_18 : GcdP 12 18 6 2 (-1) where
  g_ := by decide
  sum := by decide
  low := fun _ => by decide
  high := fun _ => by decide
  none := fun h => absurd h (by decide)
  size := .inl (by decide)

theorem gcd_s : GcdS := by
  intro w ht
  refine (numGcd_g _ _ w ht ?_).mono ?_
  · intro x y hx hy W v1 v2 h1 h2
    have hy8 : y = 18 := itoa_inj (hy.1.symm.trans nl_18.1)
    exact divisor_some v1 v2 x y W h1 h2 hx.2 hy.2 (by rw [hy8]; decide)
  · rintro e w' ⟨⟨x, y, hx, hy, rfl⟩ | ⟨hn, _⟩, hb⟩
    · obtain rfl := itoa_inj (hx.1.symm.trans nl_12.1)
      obtain rfl := itoa_inj (hy.1.symm.trans nl_18.1)
      refine ⟨?_, hb⟩
      rw [gcdOut_eq gcd_12_18]
      show Ending.returned (.tuple #[.string (gtx 6), .string (gtx 2), .string (gtx (-1)), .int .i64 0]) = _
      rw [show gtx 6 = ⟨#[54]⟩ from by decide +kernel, show gtx 2 = ⟨#[50]⟩ from by decide +kernel, show gtx (-1) = ⟨#[45, 49]⟩ from by decide +kernel]
    · exact absurd ⟨⟨_, nl_12⟩, _, nl_18⟩ hn

/-- sanity answers true. -/
theorem sanity_c : San := sanity_g gcd_s

end Go.Proofs.YtbjgpbdkofadiaaGreatDoor
