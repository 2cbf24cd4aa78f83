/- A list of reals as a parameter: opened; arguments read behind the call as they did before. -/
import Derived.Test.YtekbfommnmikbaaGreatDoorRFrame
import Derived.Deep.SlicePairs
import Derived.Carry
import Derived.ChangeOld
namespace Go.Proofs.YtekbfommnmikbaaGreatDoor
set_option linter.unusedVariables false
set_option linter.unusedSimpArgs false
open Go.ChangeShapes Go.WideShapes Go.ChangeAt Go.WideMaps Go.WideElems Go.RowKit

/-- Arguments that lie below the heap's old size read as they did. -/
theorem args_stay {H : Type} {enc : TypeId × Value → H} (hl : laidOutB Tryz.prog = true) {W W' : World} (hb : Below W.heap.size W W') :
    ∀ {ts : List TypeId} {vs : List Value} {ds : List (DataW H)} {ps : List MemPlace}, (∀ t ∈ ts, Tryz.prog.readableRec t = true ∧ t < Tryz.prog.types.size) → DataW.TrodAll enc Tryz.prog W 0 (fun _ => true) true ts vs ds ps → DataW.TrodAll enc Tryz.prog W' 0 (fun b => decide (b < W.heap.size)) true ts vs ds ps
  | [], vs, ds, ps, _, h => by
    obtain ⟨rfl, rfl, rfl⟩ := trodAll_nil h
    exact trodAll_mk0
  | t :: ts, vs, ds, ps, ht, h => by
    have hlt := DataW.TrodAll.lt h
    obtain ⟨v, vs', d, ds', p, q, rfl, rfl, rfl, ⟨n, h1⟩, h2⟩ := trodAll_cons h
    have hp : ∀ x ∈ p, x.block < W.heap.size := fun x hx => hlt x (List.mem_append.2 (.inl hx))
    obtain ⟨r1, r2⟩ := ht t (List.mem_cons_self ..)
    exact trodAll_cons_mk ⟨n, DataW.trod_stays (kids_book hl r1) (book_sized r1) (fun h => by cases h) ⟨r2, book_self t⟩ h1 (fun x hx => hb.same (hp x hx)) (fun x hx => by simpa using hp x hx)⟩
      (args_stay hl hb (fun u hu => ht u (List.mem_cons_of_mem _ hu)) h2)

/-- The int of a value. -/
def iv : Value → Int
  | .int _ z => z
  | _ => 0
set_option maxRecDepth 100000 in
/-- A list of reals. -/
theorem open_reals {H : Type} {enc : TypeId × Value → H} {w w2 : World} {r : _} {base b2 : Nat} {sp : Nat → Bool} {held : Bool} {v : Value} {d : DataW H} {p : List MemPlace} (hok : Value.okWide Tryz.prog w r base 45 v) (h : DataW.Trod enc Tryz.prog w2 b2 sp held 45 v d p) :
    ∃ A c l, v = .slice A l.length c ∧ Reals w2 A l ∧ In64 l ∧ l.length ≤ 9223372036854775807 := by
  obtain ⟨a, len, cap, rfl⟩ := okWide_slice Tryz.underlying45 hok
  obtain ⟨fuel, hf⟩ := h
  have hf' : DataW.trod enc Tryz.prog w2 b2 sp held fuel 45 [.slice a len cap] = some (d, p) := hf
  rcases Go.Deep.open_slice_pairs Tryz.underlying45 Tryz.underlying23 cells_real rfl rfl cells_int cells_int hf' with ⟨e, -⟩ | ⟨a', len', cap', m, n, V0, V1, D0, D1, P0, P1, e, hb, hl, hm, hmm, hx, hall⟩
  · cases e
    refine ⟨none, 0, [], rfl, fun j hj => ?_, fun q hq => ?_, Nat.zero_le _⟩
    · exact absurd hj (Nat.not_lt_zero _)
    · exact absurd hq List.not_mem_nil
  · cases e
    have hlm : len ≤ m := by rw [hmm]; split <;> omega
    have hcell : ∀ i, i < len → w2.cell? (a'.add (i * 2)) = some (.int .i64 (iv (V0 i))) ∧ w2.cell? ((a'.add (i * 2)).add 1) = some (.int .i64 (iv (V1 i))) ∧ -9223372036854775808 ≤ iv (V0 i) ∧ iv (V0 i) ≤ 9223372036854775807 := by
      intro i hi
      obtain ⟨h1, h2, h3, h4⟩ := hall i (by omega)
      obtain ⟨z0, e0, -, wz⟩ := DataW.trod_int Tryz.underlying3 h3
      obtain ⟨z1, e1, -, -⟩ := DataW.trod_int Tryz.underlying3 h4
      cases e0' : V0 i <;> rw [e0'] at e0 <;> simp at e0
      cases e1' : V1 i <;> rw [e1'] at e1 <;> simp at e1
      obtain ⟨rfl, rfl⟩ := e0
      obtain ⟨rfl, rfl⟩ := e1
      have hw := bounds_i64 wz
      exact ⟨by rw [h1, e0']; rfl, by rw [Go.Deep.add_add, h2, e1']; rfl, hw.1, hw.2⟩
    refine ⟨some a', cap, (List.range len).map fun i => (iv (V0 i), iv (V1 i)), by simp, ?_, ?_, ?_⟩
    · intro j hj
      have hj' : j < len := by simpa using hj
      obtain ⟨h1, h2, -⟩ := hcell j hj'
      refine ⟨a', rfl, ?_, ?_⟩
      · rw [h1]; simp [hj']
      · rw [h2]; simp [hj']
    · intro q hq
      obtain ⟨i, hi, rfl⟩ := List.mem_map.1 hq
      obtain ⟨-, -, h3, h4⟩ := hcell i (List.mem_range.1 hi)
      exact ⟨h3, h4⟩
    · simp
      unfold maxLen at hm
      omega
end Go.Proofs.YtekbfommnmikbaaGreatDoor
