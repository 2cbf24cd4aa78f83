/- The reference's integers: order. -/
import Derived.Test.YtbjgpbdkofadiaaGreatDoorRefD
import Derived.Deep.DrawnRows
namespace Go.Proofs.YtbjgpbdkofadiaaGreatDoor
set_option linter.unusedVariables false
set_option linter.unusedSimpArgs false
open Go.RowKit
attribute [local go_sem ↓] Go.wp_at_zero Go.wp_at_succ

/-- No whole number. -/
def NoI (v : Value) : Prop := ∀ kd z, v ≠ .int kd z
theorem noi_bool (b : Bool) : NoI (.bool b) := fun _ _ h => by cases h
theorem noi_slice (A : Option Addr) (n c : Nat) : NoI (.slice A n c) := fun _ _ h => by cases h
theorem box_put {w : World} {g : Nat} {cs : Array Value} {t : TypeId} {fz : Nat × Nat} (h : w.heap[g]? = some (.cells cs t fz)) (i : Nat) (v : Value) :
    (w.setCell ⟨g, i, none⟩ v).heap[g]? = some (.cells (cs.setIfInBounds i v) t fz) := by
  obtain ⟨hlt, h'⟩ := Array.getElem?_eq_some_iff.1 h
  show (w.heap.modify g _)[g]? = _
  rw [Array.getElem?_eq_getElem (by simpa using hlt), Array.getElem_modify_self, h']
  rfl
/-- Digits lie in no box of other things: a store into it leaves them. -/
theorem dg_put {w : World} {v : Value} {n g : Nat} {cs : Array Value} {t : TypeId} {fz : Nat × Nat} (h : Dg 10 w v n) (hbox : w.heap[g]? = some (.cells cs t fz)) (hcs : ∀ (i : Nat) x, cs[i]? = some x → NoI x) (i : Nat) (u : Value) :
    Dg 10 (w.setCell ⟨g, i, none⟩ u) v n := by
  obtain ⟨A, c, rfl, h1, h2, hr⟩ := h
  by_cases h0 : dg 10 n = []
  · refine ⟨A, c, rfl, h1, h2, ?_⟩
    rw [h0]; exact Row.nil
  · refine Dg.same ⟨A, c, rfl, h1, h2, hr⟩ fun k hk => Below.heap_setCell _ _ _ _ fun e => ?_
    have e' : k = g := e
    subst e'
    have hl : 0 < (dg 10 n).length := List.length_pos_iff.2 h0
    obtain ⟨a, rfl, hc⟩ := hr 0 hl
    rw [addr_zero] at hc
    have hb : a.block = k := by simpa [Value.ownBlock] using hk
    unfold World.cell? at hc
    rw [hb, hbox] at hc
    simp only [] at hc
    split at hc
    · cases hc
    · exact hcs _ _ hc _ _ rfl
theorem two_noi {x0 x1 : Value} (h0 : NoI x0) (h1 : NoI x1) : ∀ (i : Nat) x, (#[x0, x1] : Array Value)[i]? = some x → NoI x := by
  intro i x hi
  match i with
  | 0 => simp at hi; subst hi; exact h0
  | 1 => simp at hi; subst hi; exact h1
  | i + 2 => simp at hi
/-- A number of the reference's stored into a box. -/
theorem ri_put {w : World} {g n c n' c' : Nat} {A A' : Option Addr} {b b' : Bool} {t : TypeId} {z : Int} (h : Ri w (.agg #[.slice A n c, .bool b]) z) (hb : w.heap[g]? = some (.cells #[.slice A' n' c', .bool b'] t (0, 0))) :
    ∃ F, (w.setCell ⟨g, 0, none⟩ (.slice A n c)).setCell ⟨g, 1, none⟩ (.bool b) = F ∧ F.cell? ⟨g, 0, none⟩ = some (.slice A n c) ∧ F.cell? ⟨g, 1, none⟩ = some (.bool b) ∧ Ri F (.agg #[.slice A n c, .bool b]) z ∧ (∀ k w0, k ≤ g → Below k w0 w → Below k w0 F) := by
  have b1 := box_put hb 0 (.slice A n c)
  have e1 : (#[.slice A' n' c', .bool b'] : Array Value).setIfInBounds 0 (.slice A n c) = #[.slice A n c, .bool b'] := by simp
  rw [e1] at b1
  have b2 := box_put b1 1 (.bool b)
  have e2 : (#[.slice A n c, .bool b'] : Array Value).setIfInBounds 1 (.bool b) = #[.slice A n c, .bool b] := by simp
  rw [e2] at b2
  refine ⟨_, rfl, cell_of_heap b2 0, cell_of_heap b2 1, ?_, fun k w0 hk hb => (hb.setCell hk _).setCell hk _⟩
  obtain ⟨p, e, hd⟩ := h
  exact ⟨p, e, dg_put (dg_put hd hb (two_noi (noi_slice _ _ _) (noi_bool _)) _ _) b1 (two_noi (noi_slice _ _ _) (noi_bool _)) _ _⟩
theorem ri_alloc {w : World} {n c : Nat} {A : Option Addr} {b : Bool} (t : TypeId) {z : Int} (h : Ri w (.agg #[.slice A n c, .bool b]) z) :
    ∃ F, w.alloc (.cells #[.slice A n c, .bool b] t) = F ∧ F.cell? ⟨w.heap.size, 0, none⟩ = some (.slice A n c) ∧ F.cell? ⟨w.heap.size, 1, none⟩ = some (.bool b) ∧ Ri F (.agg #[.slice A n c, .bool b]) z ∧ (∀ k w0, k ≤ w.heap.size → Below k w0 w → Below k w0 F) :=
  ⟨_, rfl, new_cell _ _ _ 0, new_cell _ _ _ 1, h.below ((Below.refl _ _).alloc (Nat.le_refl _) _), fun k w0 hk hb => hb.alloc hk _⟩
end Go.Proofs.YtbjgpbdkofadiaaGreatDoor
