/- The law NumberRing. -/
import Derived.Test.YtbjgpbdkofadiaaGreatDoorRingA
import Derived.Test.YtbjgpbdkofadiaaGreatDoorRingB
import Derived.Test.YtbjgpbdkofadiaaGreatDoorInts
namespace Go.Proofs.YtbjgpbdkofadiaaGreatDoor
set_option linter.unusedVariables false
set_option linter.unusedSimpArgs false
open Go.RowKit Go.Shelf Go.Proofs

set_option maxRecDepth 100000 in
set_option maxHeartbeats 1000000 in
theorem ring_bad (hsan : San) (a b c : ByteArray) (w : World) (ht : Tabs w) (h : ¬ ∃ x y z, NumL a.data.toList x ∧ NumL b.data.toList y ∧ NumL c.data.toList z) :
    Calls Tryz.prog 9 #[.string a, .string b, .string c] w fun e w' => e = .returned (.bool true) ∧ Below w.heap.size w w' := by
  have HT := Lib.hid ht
  have HN := Lib.hid h
  have HS : Hid (∀ w : World, Tabs w → Calls Tryz.prog 18 #[] w fun e w' => e = .returned (.bool true) ∧ Below w.heap.size w w') := hsan
  clear ht h hsan
  go_enter Tryz.func9, Tryz.ntmps9
  go_wp2_with (first
    | (go_at_call 40; refine (integers_bad a b c _ HN.out).mono ?_; rintro e W ⟨rfl, hbz⟩; have HB := Lib.hid hbz; clear hbz)
    | (go_at_call 18; refine (HS.out _ (HT.out.below HB.out)).mono ?_; rintro e W ⟨rfl, hbz⟩; have HB := Lib.hid (below_then' HB.out hbz); clear hbz))
  go_ret
  exact ⟨rfl, HB.out⟩

theorem ring_ok (hsan : San) (a b c : ByteArray) (x y z : Int) (w : World) (ht : Tabs w) (ha : NumL a.data.toList x) (hb : NumL b.data.toList y) (hc : NumL c.data.toList z) :
    Calls Tryz.prog 9 #[.string a, .string b, .string c] w fun e w' => e = .returned (.bool true) ∧ Below w.heap.size w w' := by
  rcases ern_or (x + y) with q1 | q1 <;> rcases ern_or (x * y) with q2 | q2
  · exact ring_00 hsan a b c x y z w ht ha hb hc q1 q2
  · exact ring_03 hsan a b c x y z w ht ha hb hc q1 q2
  · exact ring_30 hsan a b c x y z w ht ha hb hc q1 q2
  · exact ring_33 hsan a b c x y z w ht ha hb hc q1 q2

/-- The walk of NumberRing. -/
theorem ring_walk (hsan : San) (a b c : ByteArray) (w : World) (ht : Tabs w) : Calls Tryz.prog 9 #[.string a, .string b, .string c] w fun e w' => e = .returned (.bool true) ∧ Below w.heap.size w w' := by
  by_cases h : ∃ x y z, NumL a.data.toList x ∧ NumL b.data.toList y ∧ NumL c.data.toList z
  · obtain ⟨x, y, z, ha, hb, hc⟩ := h
    exact ring_ok hsan a b c x y z w ht ha hb hc
  · exact ring_bad hsan a b c w ht h

end Go.Proofs.YtbjgpbdkofadiaaGreatDoor
