/- A region that draws its order, whose operations have values that are known ahead, and leave what was there. -/
import Derived.Test.YtekbfommnmikbaaGreatDoorInv
import Derived.Test.YtekbfommnmikbaaGreatDoorM1
namespace Go.Proofs.YtekbfommnmikbaaGreatDoor
set_option linter.unusedVariables false
set_option linter.unusedSimpArgs false
open Go.RowKit

/-- What holds while such a region runs. -/
structure Jv (W : World) (ds : List Nat) (vs : List Value) (l : Array Bool) (us : Nat → Value) (w : World) : Prop where
  below : Below W.heap.size W w
  val : ∀ i, i < ds.length → l.getD i false = true → us (ds.getD i 0) = vs.getD i undef
theorem Jv.start {W : World} {ds : List Nat} {vs : List Value} {n : Nat} (us : Nat → Value) : Jv W ds vs (Array.replicate n false) us W.drew :=
  ⟨(Below.refl _ _).drew, fun i _ h => (none_listed h).elim⟩
theorem Jv.step {W w w' : World} {ds : List Nat} {vs : List Value} {l : Array Bool} {us : Nat → Value} (h : Jv W ds vs l us w) (hb : Below w.heap.size w w') (i d : Nat) (v : Value) (hi : ds.getD i 0 = d) (hv : vs.getD i undef = v) (hn : ∀ j, j < ds.length → ds.getD j 0 = d → j = i) :
    Jv W ds vs (l.setIfInBounds i true) (upd us d v) w' := by
  refine ⟨h.below.trans (hb.mono h.below.size), fun j hj hl => ?_⟩
  by_cases e : j = i
  · subst e; rw [hi, upd_same, hv]
  · rw [upd_ne us v (fun e2 => e (hn j hj e2))]
    rcases listed_or hl with h1 | h1
    · exact absurd h1 e
    · exact h.val j hj h1
/-- Slots that are all different. -/
def distinct (ds : List Nat) : Bool := (List.range ds.length).all fun i => (List.range ds.length).all fun j => decide (ds.getD j 0 = ds.getD i 0 → j = i)
theorem distinct_at {ds : List Nat} (h : distinct ds = true) {i : Nat} (hi : i < ds.length) : ∀ j, j < ds.length → ds.getD j 0 = ds.getD i 0 → j = i := fun j hj e => by
  have h1 := List.all_eq_true.1 h i (List.mem_range.2 hi)
  have h2 := List.all_eq_true.1 h1 j (List.mem_range.2 hj)
  exact of_decide_eq_true h2 e
theorem Jv.go {W w w' : World} {ds : List Nat} {vs : List Value} {l : Array Bool} {us : Nat → Value} (h : Jv W ds vs l us w) (hd : distinct ds = true) (hb : Below w.heap.size w w') (i : Nat) (hi : i < ds.length) :
    Jv W ds vs (l.setIfInBounds i true) (upd us (ds.getD i 0) (vs.getD i undef)) w' := h.step hb i _ _ rfl rfl (distinct_at hd hi)
end Go.Proofs.YtekbfommnmikbaaGreatDoor
