/- Words for what lies in memory: slices of whole numbers that are read, where they lie, digits of a number. -/
import Derived.WalkKit
import Derived.WalkSpells
import Derived.WalkLawsBesides
import Derived.Lib.Hide
import Derived.Maps.AppendAt
import Derived.Deep.LoopGhost
import Derived.Deep.QuietTactic
import Derived.BigQuiet
import Derived.Deep.RegionHeld3
import Derived.Deep.AppendLies
import Derived.Deep.DeepMust
import Derived.Deep.DeepCutAuto
import Derived.Test.YtbjgpbdkofadiaaGreatDoorMath
namespace Go.Proofs.YtbjgpbdkofadiaaGreatDoor
set_option linter.unusedVariables false
set_option linter.unusedSimpArgs false
open Go.RowKit

/-- The numbers xs lie from A on. -/
def Row (k : IntKind) (w : World) (A : Option Addr) (xs : List Int) : Prop :=
  ∀ j, j < xs.length → ∃ a, A = some a ∧ w.cell? (a.add j) = some (.int k (xs[j]?.getD 0))

/-- v is a slice of the numbers xs. -/
def Sl (k : IntKind) (w : World) (v : Value) (xs : List Int) : Prop := ∃ A c, v = .slice A xs.length c ∧ xs.length ≤ c ∧ c ≤ 9223372036854775807 ∧ Row k w A xs

/-- v lies from block B on (or nowhere). -/
def FromB (B : Nat) (v : Value) : Prop := ∀ k, v.ownBlock = some k → B ≤ k

/-- v is a slice of the digits of n to the base b. -/
def Dg (b : Nat) (w : World) (v : Value) (n : Nat) : Prop := Sl .i64 w v (dg b n)

theorem Row.at_ {k : IntKind} {w : World} {A : Option Addr} {xs : List Int} (h : Row k w A xs) (j : Nat) (hj : j < xs.length) :
    ∃ a, A = some a ∧ w.cell? (a.add j) = some (.int k (xs[j]?.getD 0)) := h j hj

theorem Row.nil {k : IntKind} {w : World} {A : Option Addr} : Row k w A [] := fun _ h => by simp at h

/-- What lay in a world lies in each later one that has left it. -/
theorem Row.below {k : IntKind} {w w' : World} {A : Option Addr} {xs : List Int} (h : Row k w A xs) (hb : Below w.heap.size w w') : Row k w' A xs := by
  intro j hj
  obtain ⟨a, e, hc⟩ := h j hj
  exact ⟨a, e, (hb.cell (World.block_lt_of_cell? w _ hc)).trans hc⟩
theorem Sl.below {k : IntKind} {w w' : World} {v : Value} {xs : List Int} (h : Sl k w v xs) (hb : Below w.heap.size w w') : Sl k w' v xs := by
  obtain ⟨A, c, e, hc, hm, hr⟩ := h
  exact ⟨A, c, e, hc, hm, hr.below hb⟩
theorem Dg.below {b : Nat} {w w' : World} {v : Value} {n : Nat} (h : Dg b w v n) (hb : Below w.heap.size w w') : Dg b w' v n := Sl.below h hb

theorem add_block (a : Addr) (j : Nat) : (a.add j).block = a.block := by unfold Addr.add; split <;> rfl
theorem add_lit (g off j : Nat) : (⟨g, off, none⟩ : Addr).add j = ⟨g, off + j, none⟩ := by unfold Addr.add; split <;> simp_all

/-- A store elsewhere, or whatever keeps the block. -/
theorem Row.same {k : IntKind} {w w' : World} {A : Option Addr} {xs : List Int} (h : Row k w A xs) (hs : ∀ a, A = some a → w'.heap[a.block]? = w.heap[a.block]?) : Row k w' A xs := by
  intro j hj
  obtain ⟨a, e, hc⟩ := h j hj
  refine ⟨a, e, ?_⟩
  rw [World.cell?_of_block (w := w) (by rw [add_block]; exact hs a e)]
  exact hc
theorem Sl.same {k : IntKind} {w w' : World} {v : Value} {xs : List Int} (h : Sl k w v xs) (hs : ∀ g, v.ownBlock = some g → w'.heap[g]? = w.heap[g]?) : Sl k w' v xs := by
  obtain ⟨A, c, rfl, hc, hm, hr⟩ := h
  exact ⟨A, c, rfl, hc, hm, hr.same fun a e => hs _ (by subst e; rfl)⟩
theorem Dg.same {b : Nat} {w w' : World} {v : Value} {n : Nat} (h : Dg b w v n) (hs : ∀ g, v.ownBlock = some g → w'.heap[g]? = w.heap[g]?) : Dg b w' v n := Sl.same h hs

theorem Sl.alloc {k : IntKind} {w : World} {v : Value} {xs : List Int} (h : Sl k w v xs) (o : Obj) : Sl k (w.alloc o) v xs := h.below ((Below.refl _ _).alloc (Nat.le_refl _) _)
theorem Sl.drew {k : IntKind} {w : World} {v : Value} {xs : List Int} (h : Sl k w v xs) : Sl k w.drew v xs := h.below (Below.refl _ _).drew
theorem Row.alloc {k : IntKind} {w : World} {v : Option Addr} {xs : List Int} (h : Row k w v xs) (o : Obj) : Row k (w.alloc o) v xs := h.below ((Below.refl _ _).alloc (Nat.le_refl _) _)
theorem Row.drew {k : IntKind} {w : World} {v : Option Addr} {xs : List Int} (h : Row k w v xs) : Row k w.drew v xs := h.below (Below.refl _ _).drew

/-- Two calls, one behind the other. -/
theorem below_then {B : Nat} {w w1 w2 : World} (h : Below B w w1) (k : Below w1.heap.size w1 w2) (hB : B ≤ w1.heap.size) : Below B w w2 := h.trans (k.mono hB)
theorem below_then' {w w1 w2 : World} (h : Below w.heap.size w w1) (k : Below w1.heap.size w1 w2) : Below w.heap.size w w2 := h.trans (k.mono h.size)
theorem below_drewN {B : Nat} {a w : World} (h : Below B a w) (n : Nat) : Below B a (w.drewN n) := ⟨h.os, h.tape, h.output, h.size, h.block⟩

/-- What the call itself has made reads as a slice. -/
theorem own_row {w : World} {base n : Nat} {e : TypeId} {k : IntKind} {v : Value} {xs : List Int} (h : w.ownsRow base e 1 v n (xs.map (Value.int k))) :
    ∃ A c, v = .slice A xs.length c ∧ xs.length ≤ c ∧ c ≤ maxLen ∧ Row k w A xs ∧ xs.length = n := by
  have hl : xs.length = n := by have := h.1; simpa using this
  rcases h.2 with ⟨rfl, h0⟩ | ⟨g, cap, cur, rfl, hb, hh, hn, hm, hs, ht⟩
  · obtain rfl : xs = [] := List.eq_nil_of_length_eq_zero (by omega)
    exact ⟨none, 0, rfl, Nat.le_refl _, Nat.zero_le _, Row.nil, by simpa using hl⟩
  · refine ⟨some ⟨g, 0, none⟩, cap, by rw [hl], by omega, hm, ?_, hl⟩
    intro j hj
    refine ⟨_, rfl, h.cells (g := g) rfl j _ ?_⟩
    rw [List.getElem?_map, List.getElem?_eq_getElem hj]
    rfl
theorem own_sl {w : World} {base n : Nat} {e : TypeId} {k : IntKind} {v : Value} {xs : List Int} (h : w.ownsRow base e 1 v n (xs.map (Value.int k))) : Sl k w v xs := by
  obtain ⟨A, c, e, h1, hm, h2, _⟩ := own_row h
  exact ⟨A, c, e, h1, by unfold maxLen at hm; omega, h2⟩
theorem own_from {w : World} {base n : Nat} {e : TypeId} {size : Nat} {v : Value} {xs : List Value} (h : w.ownsRow base e size v n xs) : FromB base v := fun k hk => (h.lt k hk).1

theorem FromB.mono {B B' : Nat} {v : Value} (h : FromB B v) (hB : B' ≤ B) : FromB B' v := fun k hk => Nat.le_trans hB (h k hk)

theorem own_drewN {w : World} {base n : Nat} {e : TypeId} {size : Nat} {v : Value} {xs : List Value} (h : w.ownsRow base e size v n xs) (m : Nat) : (w.drewN m).ownsRow base e size v n xs := h

theorem new_cell (w : World) (cs : Array Value) (t : TypeId) (i : Nat) : (w.alloc (.cells cs t)).cell? ⟨w.heap.size, i, none⟩ = cs[i]? := by
  unfold World.cell?
  rw [heap_alloc_new]
  rfl
theorem new_free (w : World) (cs : Array Value) (t : TypeId) (i : Nat) : (w.alloc (.cells cs t)).frozen? ⟨w.heap.size, i, none⟩ = false := by
  unfold World.frozen?
  rw [heap_alloc_new]
  simp

theorem set_same {w : World} {a : Addr} {u : Value} (v : Value) (h : w.cell? a = some u) : (w.setCell a v).cell? a = some v := World.cell?_setCell_same (h := h) ..
theorem set_far {w : World} {a b : Addr} {u : Value} (v : Value) (hne : a.block ≠ b.block) (h : w.cell? b = some u) : (w.setCell a v).cell? b = some u := (World.cell?_setCell_far w a b v hne).trans h
theorem set_other {w : World} {a b : Addr} {u : Value} (v : Value) (hne : a ≠ b) (h : w.cell? b = some u) : (w.setCell a v).cell? b = some u := (World.cell?_setCell_other (h := hne) ..).trans h

/-- A store into a cell that is there, whatever it holds. -/
theorem stored_some {P : Program} {w : World} {a : Addr} {v : Value} {m : Mode} (h : (w.cell? a).isSome = true) (hf : w.frozen? a = false) : stored P w a v m = .ok () (w.setCell a v) := by
  obtain ⟨u, hu⟩ := Option.isSome_iff_exists.1 h
  simp [stored, hu, hf]
theorem some_set {w : World} {a b : Addr} {v : Value} (h : (w.cell? b).isSome = true) : ((w.setCell a v).cell? b).isSome = true := by
  obtain ⟨u, hu⟩ := Option.isSome_iff_exists.1 h
  by_cases e : a = b
  · subst e; rw [set_same v hu]; rfl
  · rw [set_other v e hu]; rfl
theorem lt_of_some {w : World} {a : Addr} (h : (w.cell? a).isSome = true) : a.block < w.heap.size := by
  obtain ⟨u, hu⟩ := Option.isSome_iff_exists.1 h
  exact World.block_lt_of_cell? w a hu
theorem Dg.set {b : Nat} {w : World} {v : Value} {n k : Nat} {a : Addr} (h : Dg b w v n) (hf : FromB k v) (hk : a.block < k) (x : Value) : Dg b (w.setCell a x) v n :=
  h.same fun g hg => Below.heap_setCell _ _ _ _ (by have := hf g hg; omega)
theorem Sl.set {kd : IntKind} {w : World} {v : Value} {xs : List Int} {k : Nat} {a : Addr} (h : Sl kd w v xs) (hf : FromB k v) (hk : a.block < k) (x : Value) : Sl kd (w.setCell a x) v xs :=
  h.same fun g hg => Below.heap_setCell _ _ _ _ (by have := hf g hg; omega)

/-- What a call that only makes memory of its own keeps. -/
theorem keep_cell {w w' : World} {a : Addr} {v : Value} (hb : Below w.heap.size w w') (h : w.cell? a = some v) : w'.cell? a = some v := (hb.cell (World.block_lt_of_cell? w a h)).trans h
theorem keep_some {w w' : World} {a : Addr} (hb : Below w.heap.size w w') (h : (w.cell? a).isSome = true) : (w'.cell? a).isSome = true := by rw [hb.cell (lt_of_some h)]; exact h
theorem keep_free {w w' : World} {a : Addr} (hb : Below w.heap.size w w') (hs : (w.cell? a).isSome = true) (h : w.frozen? a = false) : w'.frozen? a = false := by rw [hb.frozen (lt_of_some hs)]; exact h
theorem keep_free' {w w' : World} {a : Addr} {v : Value} (hb : Below w.heap.size w w') (hs : w.cell? a = some v) (h : w.frozen? a = false) : w'.frozen? a = false := by rw [hb.frozen (World.block_lt_of_cell? w a hs)]; exact h
/-- Below B (some block of before), kept by such a call. -/
structure Bel (B : Nat) (w w' : World) : Prop where
  to_ : Below B w w'
  size_ : B ≤ w.heap.size
theorem Bel.call {B : Nat} {w w1 w2 : World} (h : Bel B w w1) (hb : Below w1.heap.size w1 w2) : Bel B w w2 := ⟨h.to_.trans (hb.mono (Nat.le_trans h.size_ h.to_.size)), h.size_⟩
theorem Bel.to {w w1 : World} (h : Bel w.heap.size w w1) : Below w.heap.size w w1 := h.to_
theorem Bel.refl (B : Nat) (w : World) (h : B ≤ w.heap.size) : Bel B w w := ⟨Below.refl _ _, h⟩
theorem Bel.drew {B : Nat} {w w1 : World} (h : Bel B w w1) : Bel B w w1.drew := ⟨h.to_.drew, h.size_⟩
theorem Bel.alloc {B : Nat} {w w1 : World} (h : Bel B w w1) (o : Obj) : Bel B w (w1.alloc o) := ⟨h.to_.alloc (Nat.le_trans h.size_ h.to_.size) o, h.size_⟩
theorem Bel.set {B : Nat} {w w1 : World} (h : Bel B w w1) {a : Addr} (v : Value) (ha : B ≤ a.block) : Bel B w (w1.setCell a v) := ⟨h.to_.setCell ha v, h.size_⟩

theorem cell_of_heap {w : World} {b : Nat} {c : Array Value} {t : TypeId} {f : Nat × Nat} (h : w.heap[b]? = some (.cells c t f)) (i : Nat) : w.cell? ⟨b, i, none⟩ = c[i]? := by unfold World.cell?; rw [h]; rfl
theorem free_of_heap {w : World} {b : Nat} {c : Array Value} {t : TypeId} (h : w.heap[b]? = some (.cells c t (0, 0))) (i : Nat) : w.frozen? ⟨b, i, none⟩ = false := by unfold World.frozen?; rw [h]; simp
theorem heap_old {w : World} {b : Nat} {x : Obj} (o : Obj) (h : w.heap[b]? = some x) : (w.alloc o).heap[b]? = some x := by
  rw [Below.heap_alloc w o b (Array.getElem?_eq_some_iff.1 h).1]; exact h
theorem heap_new' (w : World) (o : Obj) (b : Nat) (hb : b = w.heap.size) : (w.alloc o).heap[b]? = some o := by subst hb; exact heap_alloc_new w o
theorem boxes1 (w : World) (a0 : Array Value) (t0 : TypeId) : ∃ W, w.alloc (.cells a0 t0) = W ∧ (∀ i, W.cell? ⟨w.heap.size, i, none⟩ = a0[i]?) ∧ (∀ i, W.frozen? ⟨w.heap.size, i, none⟩ = false) ∧ Bel w.heap.size w W ∧ W.heap.size = w.heap.size + 1 := by
  refine ⟨_, rfl, fun i => cell_of_heap (heap_alloc_new _ _) i, fun i => free_of_heap (heap_alloc_new _ _) i, ?_, by simp⟩
  exact (Bel.refl _ _ (Nat.le_refl _)).alloc _
theorem boxes2 (w : World) (a0 a1 : Array Value) (t0 t1 : TypeId) : ∃ W, (w.alloc (.cells a0 t0)).alloc (.cells a1 t1) = W ∧ (∀ i, W.cell? ⟨w.heap.size, i, none⟩ = a0[i]?) ∧ (∀ i, W.cell? ⟨w.heap.size + 1, i, none⟩ = a1[i]?) ∧ (∀ i, W.frozen? ⟨w.heap.size, i, none⟩ = false) ∧ (∀ i, W.frozen? ⟨w.heap.size + 1, i, none⟩ = false) ∧ Bel w.heap.size w W ∧ W.heap.size = w.heap.size + 1 + 1 := by
  refine ⟨_, rfl, fun i => cell_of_heap (heap_old _ (heap_alloc_new _ _)) i, fun i => cell_of_heap (heap_new' _ _ _ (by simp)) i, fun i => free_of_heap (heap_old _ (heap_alloc_new _ _)) i, fun i => free_of_heap (heap_new' _ _ _ (by simp)) i, ?_, by simp⟩
  exact ((Bel.refl _ _ (Nat.le_refl _)).alloc _).alloc _
theorem boxes3 (w : World) (a0 a1 a2 : Array Value) (t0 t1 t2 : TypeId) : ∃ W, ((w.alloc (.cells a0 t0)).alloc (.cells a1 t1)).alloc (.cells a2 t2) = W ∧ (∀ i, W.cell? ⟨w.heap.size, i, none⟩ = a0[i]?) ∧ (∀ i, W.cell? ⟨w.heap.size + 1, i, none⟩ = a1[i]?) ∧ (∀ i, W.cell? ⟨w.heap.size + 1 + 1, i, none⟩ = a2[i]?) ∧ (∀ i, W.frozen? ⟨w.heap.size, i, none⟩ = false) ∧ (∀ i, W.frozen? ⟨w.heap.size + 1, i, none⟩ = false) ∧ (∀ i, W.frozen? ⟨w.heap.size + 1 + 1, i, none⟩ = false) ∧ Bel w.heap.size w W ∧ W.heap.size = w.heap.size + 1 + 1 + 1 := by
  refine ⟨_, rfl, fun i => cell_of_heap (heap_old _ (heap_old _ (heap_alloc_new _ _))) i, fun i => cell_of_heap (heap_old _ (heap_new' _ _ _ (by simp))) i, fun i => cell_of_heap (heap_new' _ _ _ (by simp)) i, fun i => free_of_heap (heap_old _ (heap_old _ (heap_alloc_new _ _))) i, fun i => free_of_heap (heap_old _ (heap_new' _ _ _ (by simp))) i, fun i => free_of_heap (heap_new' _ _ _ (by simp)) i, ?_, by simp⟩
  exact (((Bel.refl _ _ (Nat.le_refl _)).alloc _).alloc _).alloc _
theorem boxes4 (w : World) (a0 a1 a2 a3 : Array Value) (t0 t1 t2 t3 : TypeId) : ∃ W, (((w.alloc (.cells a0 t0)).alloc (.cells a1 t1)).alloc (.cells a2 t2)).alloc (.cells a3 t3) = W ∧ (∀ i, W.cell? ⟨w.heap.size, i, none⟩ = a0[i]?) ∧ (∀ i, W.cell? ⟨w.heap.size + 1, i, none⟩ = a1[i]?) ∧ (∀ i, W.cell? ⟨w.heap.size + 1 + 1, i, none⟩ = a2[i]?) ∧ (∀ i, W.cell? ⟨w.heap.size + 1 + 1 + 1, i, none⟩ = a3[i]?) ∧ (∀ i, W.frozen? ⟨w.heap.size, i, none⟩ = false) ∧ (∀ i, W.frozen? ⟨w.heap.size + 1, i, none⟩ = false) ∧ (∀ i, W.frozen? ⟨w.heap.size + 1 + 1, i, none⟩ = false) ∧ (∀ i, W.frozen? ⟨w.heap.size + 1 + 1 + 1, i, none⟩ = false) ∧ Bel w.heap.size w W ∧ W.heap.size = w.heap.size + 1 + 1 + 1 + 1 := by
  refine ⟨_, rfl, fun i => cell_of_heap (heap_old _ (heap_old _ (heap_old _ (heap_alloc_new _ _)))) i, fun i => cell_of_heap (heap_old _ (heap_old _ (heap_new' _ _ _ (by simp)))) i, fun i => cell_of_heap (heap_old _ (heap_new' _ _ _ (by simp))) i, fun i => cell_of_heap (heap_new' _ _ _ (by simp)) i, fun i => free_of_heap (heap_old _ (heap_old _ (heap_old _ (heap_alloc_new _ _)))) i, fun i => free_of_heap (heap_old _ (heap_old _ (heap_new' _ _ _ (by simp)))) i, fun i => free_of_heap (heap_old _ (heap_new' _ _ _ (by simp))) i, fun i => free_of_heap (heap_new' _ _ _ (by simp)) i, ?_, by simp⟩
  exact ((((Bel.refl _ _ (Nat.le_refl _)).alloc _).alloc _).alloc _).alloc _
theorem boxes5 (w : World) (a0 a1 a2 a3 a4 : Array Value) (t0 t1 t2 t3 t4 : TypeId) : ∃ W, ((((w.alloc (.cells a0 t0)).alloc (.cells a1 t1)).alloc (.cells a2 t2)).alloc (.cells a3 t3)).alloc (.cells a4 t4) = W ∧ (∀ i, W.cell? ⟨w.heap.size, i, none⟩ = a0[i]?) ∧ (∀ i, W.cell? ⟨w.heap.size + 1, i, none⟩ = a1[i]?) ∧ (∀ i, W.cell? ⟨w.heap.size + 1 + 1, i, none⟩ = a2[i]?) ∧ (∀ i, W.cell? ⟨w.heap.size + 1 + 1 + 1, i, none⟩ = a3[i]?) ∧ (∀ i, W.cell? ⟨w.heap.size + 1 + 1 + 1 + 1, i, none⟩ = a4[i]?) ∧ (∀ i, W.frozen? ⟨w.heap.size, i, none⟩ = false) ∧ (∀ i, W.frozen? ⟨w.heap.size + 1, i, none⟩ = false) ∧ (∀ i, W.frozen? ⟨w.heap.size + 1 + 1, i, none⟩ = false) ∧ (∀ i, W.frozen? ⟨w.heap.size + 1 + 1 + 1, i, none⟩ = false) ∧ (∀ i, W.frozen? ⟨w.heap.size + 1 + 1 + 1 + 1, i, none⟩ = false) ∧ Bel w.heap.size w W ∧ W.heap.size = w.heap.size + 1 + 1 + 1 + 1 + 1 := by
  refine ⟨_, rfl, fun i => cell_of_heap (heap_old _ (heap_old _ (heap_old _ (heap_old _ (heap_alloc_new _ _))))) i, fun i => cell_of_heap (heap_old _ (heap_old _ (heap_old _ (heap_new' _ _ _ (by simp))))) i, fun i => cell_of_heap (heap_old _ (heap_old _ (heap_new' _ _ _ (by simp)))) i, fun i => cell_of_heap (heap_old _ (heap_new' _ _ _ (by simp))) i, fun i => cell_of_heap (heap_new' _ _ _ (by simp)) i, fun i => free_of_heap (heap_old _ (heap_old _ (heap_old _ (heap_old _ (heap_alloc_new _ _))))) i, fun i => free_of_heap (heap_old _ (heap_old _ (heap_old _ (heap_new' _ _ _ (by simp))))) i, fun i => free_of_heap (heap_old _ (heap_old _ (heap_new' _ _ _ (by simp)))) i, fun i => free_of_heap (heap_old _ (heap_new' _ _ _ (by simp))) i, fun i => free_of_heap (heap_new' _ _ _ (by simp)) i, ?_, by simp⟩
  exact (((((Bel.refl _ _ (Nat.le_refl _)).alloc _).alloc _).alloc _).alloc _).alloc _

theorem max2_int (k k' : IntKind) (x y : Int) : Builtin.max2 (.int k x) (.int k' y) = pure (.int k (if x < y then y else x)) := by simp only [Builtin.max2, gt_iff_lt]
theorem min2_int (k k' : IntKind) (x y : Int) : Builtin.min2 (.int k x) (.int k' y) = pure (.int k (if y < x then y else x)) := by simp only [Builtin.min2]
theorem max_two (ats : Array TypeId) (ty : TypeId) (a b : Value) : Builtin.max_ ats ty #[a, b] = (Builtin.max2 a b >>= fun s => pure s) := by simp only [Builtin.max_, List.foldlM_cons, List.foldlM_nil]
theorem min_two (ats : Array TypeId) (ty : TypeId) (a b : Value) : Builtin.min_ ats ty #[a, b] = (Builtin.min2 a b >>= fun s => pure s) := by simp only [Builtin.min_, List.foldlM_cons, List.foldlM_nil]

/-- A world by another name, with what is known of it. -/
theorem name_world {w W : World} (h : Below w.heap.size w W) : ∃ w1 : World, w1 = W ∧ Below w.heap.size w w1 := ⟨W, rfl, h⟩

end Go.Proofs.YtbjgpbdkofadiaaGreatDoor
