/- The law NumberOrder. -/
import Derived.Test.YtbjgpbdkofadiaaGreatDoorLawB
import Derived.Test.YtbjgpbdkofadiaaGreatDoorOrderA
import Derived.Test.YtbjgpbdkofadiaaGreatDoorOrderB
import Derived.Test.YtbjgpbdkofadiaaGreatDoorOrderC
import Derived.Test.YtbjgpbdkofadiaaGreatDoorOrderD
namespace Go.Proofs.YtbjgpbdkofadiaaGreatDoor
set_option linter.unusedVariables false
set_option linter.unusedSimpArgs false
open Go.RowKit Go.Shelf Go.Proofs

set_option maxRecDepth 100000 in
set_option maxHeartbeats 1000000 in
theorem numberorder_bad (hsan : San) (a b c : ByteArray) (w : World) (ht : Tabs w) (h : ¬ ∃ x y z, NumL a.data.toList x ∧ NumL b.data.toList y ∧ NumL c.data.toList z) :
    Calls Tryz.prog 11 #[.string a, .string b, .string c] w fun e w' => e = .returned (.bool true) ∧ Below w.heap.size w w' := by
  have HT := Lib.hid ht
  have HN := Lib.hid h
  have HB : Hid (Below w.heap.size w w) := Below.refl _ _
  have HS : Hid (∀ w : World, Tabs w → Calls Tryz.prog 18 #[] w fun e w' => e = .returned (.bool true) ∧ Below w.heap.size w w') := hsan
  clear ht h hsan
  go_enter Tryz.func11, Tryz.ntmps11
  go_wp2_with (first
  | (go_at_call 40; (with_reducible refine (integers_bad a b c _ HN.out).mono ?_); rintro e W ⟨rfl, hbz⟩; have HB := Lib.hid (below_then' HB.out hbz); clear hbz)
  | (go_at_call 18; (with_reducible refine (HS.out _ (HT.out.below HB.out)).mono ?_); rintro e W ⟨rfl, hbz⟩; have HB := Lib.hid (below_then' HB.out hbz); clear hbz))
  go_ret
  exact ⟨rfl, HB.out⟩

/-- The walk of NumberOrder. -/
theorem order_walk (hsan : San) (a b c : ByteArray) (w : World) (ht : Tabs w) :
    Calls Tryz.prog 11 #[.string a, .string b, .string c] w fun e w' => e = .returned (.bool true) ∧ Below w.heap.size w w' := by
  by_cases h : ∃ x y z, NumL a.data.toList x ∧ NumL b.data.toList y ∧ NumL c.data.toList z
  · obtain ⟨x, y, z, ha, hb, hc⟩ := h
    rcases ern_or (x + -y) with q1 | q1 <;> rcases Int.lt_or_le 0 z with q2 | q2 <;> rcases ern_or (x + z) with q3 | q3 <;> rcases ern_or (y + z) with q4 | q4
    · exact order_A00 hsan a b c x y z w ht ha hb hc q1 q3 q4 q2
    · exact order_A03 hsan a b c x y z w ht ha hb hc q1 q3 q4 q2
    · exact order_A30 hsan a b c x y z w ht ha hb hc q1 q3 q4 q2
    · exact order_A33 hsan a b c x y z w ht ha hb hc q1 q3 q4 q2
    · exact order_B00 hsan a b c x y z w ht ha hb hc q1 q3 q4 q2
    · exact order_B03 hsan a b c x y z w ht ha hb hc q1 q3 q4 q2
    · exact order_B30 hsan a b c x y z w ht ha hb hc q1 q3 q4 q2
    · exact order_B33 hsan a b c x y z w ht ha hb hc q1 q3 q4 q2
    · exact order_C00 hsan a b c x y z w ht ha hb hc q1 q3 q4 q2
    · exact order_C03 hsan a b c x y z w ht ha hb hc q1 q3 q4 q2
    · exact order_C30 hsan a b c x y z w ht ha hb hc q1 q3 q4 q2
    · exact order_C33 hsan a b c x y z w ht ha hb hc q1 q3 q4 q2
    · exact order_D00 hsan a b c x y z w ht ha hb hc q1 q3 q4 q2
    · exact order_D03 hsan a b c x y z w ht ha hb hc q1 q3 q4 q2
    · exact order_D30 hsan a b c x y z w ht ha hb hc q1 q3 q4 q2
    · exact order_D33 hsan a b c x y z w ht ha hb hc q1 q3 q4 q2
  · exact numberorder_bad hsan a b c w ht h

end Go.Proofs.YtbjgpbdkofadiaaGreatDoor
