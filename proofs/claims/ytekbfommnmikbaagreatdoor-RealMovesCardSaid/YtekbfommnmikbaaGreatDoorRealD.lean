/- Package real: rounded: what has panicked becomes an error. -/
import Derived.Test.YtekbfommnmikbaaGreatDoorRealC
import Derived.Recover
import Derived.Defers
namespace Go.Proofs.YtekbfommnmikbaaGreatDoor
set_option linter.unusedVariables false
set_option linter.unusedSimpArgs false
open Go.RowKit Go.Shelf Go.Proofs

theorem rec_idle (p q : Addr) (w : World) :
    CallsD Tryz.prog 154 #[.pointer (some p), .pointer (some q)] .returning w fun e u' w' => e = .returned (.tuple #[]) ∧ u' = .returning ∧ w' = w := by
  refine callsD_of_wpS Tryz.func154 rfl fun c₀ cs hu => ?_
  apply wpS_seq
  apply wpS_region
  simp [wpOpsS, go_sem, recoverD, hu, Tryz.ntmps154, Exit.thenS]
  refine wpS_of_wp ?_
  simp only [Array.replicate_succ, Array.replicate_zero, List.push_toArray, List.append_toArray, List.nil_append, List.cons_append, List.setIfInBounds_toArray, List.set_cons_zero, List.set_cons_succ]
  go_wp2
  cases c₀
  simp_all [bodyPostS, results, Tryz.results154]

set_option maxRecDepth 100000 in
set_option maxHeartbeats 1000000 in
theorem rec_panic (P Q : Nat) (m x k : Int) (w : World) (hP : w.heap[P]? = some (.cells #[.int .i64 m, .int .i64 x] 23 (0, 0))) (hQ : w.heap[Q]? = some (.cells #[.int .i64 k] 24 (0, 0))) (hPQ : P ≠ Q) :
    CallsD Tryz.prog 154 #[.pointer (some ⟨P, 0, none⟩), .pointer (some ⟨Q, 0, none⟩)] (.panicking bigChain) w fun e u' w' => e = .returned (.tuple #[]) ∧ u' = .panicking [{ v := .iface 146 (.agg #[]), recovered := true }] ∧ w' = (((w.alloc (.cells #[] 146)).setCell ⟨P, 0, none⟩ (.int .i64 0)).setCell ⟨P, 1, none⟩ (.int .i64 0)).setCell ⟨Q, 0, none⟩ (.int .i64 3) := by
  have hta : ∀ (xT : TypeId) (w : World), (Instr.typeAssert (.iface 146 (.agg #[])) xT 146 true).run Tryz.prog w = .ok (.tuple #[.agg #[], .bool true]) w := fun xT w => by rfl
  have hP' := heap_old (.cells #[] 146) hP
  have hQ' := heap_old (.cells #[] 146) hQ
  have c0 := cell_of_heap hP' 0; have c1 := cell_of_heap hP' 1; have d0 := cell_of_heap hQ' 0
  have f0 := free_of_heap hP' 0; have f1 := free_of_heap hP' 1; have g0 := free_of_heap hQ' 0
  simp at c0 c1 d0
  have d1 := set_far (a := ⟨P, 0, none⟩) (.int .i64 0) hPQ d0
  clear hP hQ hP' hQ' hPQ
  unfold bigChain
  refine callsD_of_wpS Tryz.func154 rfl fun c₀ cs hu => ?_
  apply wpS_seq
  apply wpS_region
  simp [wpOpsS, go_sem, recoverD, hu, Tryz.ntmps154, Exit.thenS]
  refine wpS_of_wp ?_
  have HU := Lib.hid hu
  clear hu
  simp only [Array.replicate_succ, Array.replicate_zero, List.push_toArray, List.append_toArray, List.nil_append, List.cons_append, List.setIfInBounds_toArray, List.set_cons_zero, List.set_cons_succ]
  go_wp2
  have hu := HU.out
  clear hta c0 c1 d0 d1 f0 f1 g0 HU
  cases c₀
  simp_all [bodyPostS, results, Tryz.results154]

/-- What rounded returns. -/
def resR (s : Bool) : Option (Nat × Int) → Value
  | some (m, x) => .tuple #[.agg #[.int .i64 (sgm s m), .int .i64 x], .int .i64 0]
  | none => .tuple #[.agg #[.int .i64 0, .int .i64 0], .int .i64 3]
theorem bx3h (w : World) (a0 a1 a2 : Array Value) (t0 t1 t2 : TypeId) : ∃ W, ((w.alloc (.cells a0 t0)).alloc (.cells a1 t1)).alloc (.cells a2 t2) = W ∧ W.heap[w.heap.size]? = some (.cells a0 t0 (0, 0)) ∧ W.heap[w.heap.size + 1]? = some (.cells a1 t1 (0, 0)) ∧ W.heap[w.heap.size + 2]? = some (.cells a2 t2 (0, 0)) ∧ Below w.heap.size w W :=
  ⟨_, rfl, heap_old _ (heap_old _ (heap_alloc_new _ _)), heap_old _ (heap_new' _ _ _ (by simp)), heap_new' _ _ _ (by simp), (((Below.refl _ _).alloc (Nat.le_refl _) _).alloc (by simp) _).alloc (by simp; omega) _⟩

set_option maxRecDepth 100000 in
set_option maxHeartbeats 2000000 in
theorem rounded_c (s : Bool) (A : Option Addr) (c : Nat) (ds : List Int) (e : Int) (more : Bool) (w : World) (hr : Row .u8 w A ds) (hc : ds.length ≤ c) (hm : c ≤ 9223372036854775807) (hi : InR 10 ds) (hl : ds.length ≤ 1000000) (he : -1000000000 ≤ e) (he2 : e ≤ 1000000000) :
    Calls Tryz.prog 88 #[.agg #[.bool s, .slice A ds.length c, .int .i64 e, .bool more]] w fun en w' => en = .returned (resR s (rnd (vd (withMore ds more)).toNat (expMore e more))) ∧ Below w.heap.size w w' := by
  obtain ⟨W, hW, k0, k1, k2, hbel⟩ := bx3h w #[.bool s, .slice A ds.length c, .int .i64 e, .bool more] #[.int .i64 0, .int .i64 0] #[.int .i64 0] 95 23 24
  have c00 := cell_of_heap k0 0; have c01 := cell_of_heap k0 1; have c02 := cell_of_heap k0 2; have c03 := cell_of_heap k0 3
  simp at c00 c01 c02 c03
  have HR := Lib.hid (hr.below hbel)
  have HK1 := Lib.hid k1; have HK2 := Lib.hid k2; have HBEL := Lib.hid hbel
  have HI := Lib.hid hi
  obtain ⟨o, ho⟩ : ∃ o, rnd (vd (withMore ds more)).toNat (expMore e more) = o := ⟨_, rfl⟩
  rw [ho]
  have HO := Lib.hid ho
  clear hr k0 k1 k2 hbel hi ho
  go_enter_defers Tryz.func88, Tryz.ntmps88
  cases o with
  | none =>
    go_wp2_with (go_at_call 155; (with_reducible refine (round_c s A c ds e more _ HR.out hc hm HI.out hl he he2).mono ?_); rintro en W2 ⟨hen, hbz⟩; rw [HO.out] at hen; have hen2 : en = .panicked bigChain := hen; subst hen2; have HB2 := Lib.hid hbz; clear hbz hen)
    have k1 := heapB HB2.out HK1.out
    have k2 := heapB HB2.out HK2.out
    refine leaves_cons (f := 154) (args := #[.pointer (some ⟨w.heap.size + 1, 0, none⟩), .pointer (some ⟨w.heap.size + 2, 0, none⟩)]) (by simp) (by simp [go_sem]) ?_
    refine (rec_panic (w.heap.size + 1) (w.heap.size + 2) 0 0 0 _ k1 k2 (by omega)).mono ?_
    rintro en u' w'' ⟨rfl, rfl, rfl⟩
    have j1 := putB (putB (heap_old (.cells #[] 146) k1) 0 (.int .i64 0)) 1 (.int .i64 0)
    have j1' := (Below.heap_setCell (((W2.alloc (.cells #[] 146)).setCell ⟨w.heap.size + 1, 0, none⟩ (.int .i64 0)).setCell ⟨w.heap.size + 1, 1, none⟩ (.int .i64 0)) ⟨w.heap.size + 2, 0, none⟩ (.int .i64 3) (w.heap.size + 1) (by simp)).trans j1
    have j2 := putB ((Below.heap_setCell ((W2.alloc (.cells #[] 146)).setCell ⟨w.heap.size + 1, 0, none⟩ (.int .i64 0)) ⟨w.heap.size + 1, 1, none⟩ (.int .i64 0) (w.heap.size + 2) (by simp)).trans ((Below.heap_setCell (W2.alloc (.cells #[] 146)) ⟨w.heap.size + 1, 0, none⟩ (.int .i64 0) (w.heap.size + 2) (by simp)).trans (heap_old _ k2))) 0 (.int .i64 3)
    have r0 := cell_of_heap j1' 0; have r1 := cell_of_heap j1' 1; have r2 := cell_of_heap j2 0
    simp at r0 r1 r2
    have hbl : Below w.heap.size w ((((W2.alloc (.cells #[] 146)).setCell ⟨w.heap.size + 1, 0, none⟩ (.int .i64 0)).setCell ⟨w.heap.size + 1, 1, none⟩ (.int .i64 0)).setCell ⟨w.heap.size + 2, 0, none⟩ (.int .i64 3)) := by
      have h0 := below_then' HBEL.out HB2.out
      exact (((h0.alloc h0.size _).setCell (p := ⟨w.heap.size + 1, 0, none⟩) (by simp) _).setCell (p := ⟨w.heap.size + 1, 1, none⟩) (by simp) _).setCell (p := ⟨w.heap.size + 2, 0, none⟩) (by simp) _
    simp [Leaves, settle, results, Tryz.results88, go_sem, r0, r1, r2]
    exact ⟨rfl, hbl⟩
  | some p =>
    obtain ⟨m, x⟩ := p
    go_wp2_with (go_at_call 155; (with_reducible refine (round_c s A c ds e more _ HR.out hc hm HI.out hl he he2).mono ?_); rintro en W2 ⟨hen, hbz⟩; rw [HO.out] at hen; have hen2 : en = .returned (.agg #[.int .i64 (sgm s m), .int .i64 x]) := hen; subst hen2; have k1 := heapB hbz HK1.out; have k2 := heapB hbz HK2.out; have b0 := cell_of_heap k1 0; have b1 := cell_of_heap k1 1; have b2 := cell_of_heap k2 0; have f0 := free_of_heap k1 0; have f1 := free_of_heap k1 1; have f2 := free_of_heap k2 0; have HB2 := Lib.hid hbz; have HX1 := Lib.hid k1; have HX2 := Lib.hid k2; simp at b0 b1 b2; clear hbz hen k1 k2)
    refine leaves_cons (f := 154) (args := #[.pointer (some ⟨w.heap.size + 1, 0, none⟩), .pointer (some ⟨w.heap.size + 2, 0, none⟩)]) (by simp) (by simp [go_sem]) ?_
    refine (rec_idle ⟨w.heap.size + 1, 0, none⟩ ⟨w.heap.size + 2, 0, none⟩ _).mono ?_
    rintro en u' w'' ⟨rfl, rfl, rfl⟩
    have j1 := putB (putB HX1.out 0 (.int .i64 (sgm s m))) 1 (.int .i64 x)
    have j1' := (Below.heap_setCell ((W2.setCell ⟨w.heap.size + 1, 0, none⟩ (.int .i64 (sgm s m))).setCell ⟨w.heap.size + 1, 1, none⟩ (.int .i64 x)) ⟨w.heap.size + 2, 0, none⟩ (.int .i64 0) (w.heap.size + 1) (by simp)).trans j1
    have j2 := putB ((Below.heap_setCell (W2.setCell ⟨w.heap.size + 1, 0, none⟩ (.int .i64 (sgm s m))) ⟨w.heap.size + 1, 1, none⟩ (.int .i64 x) (w.heap.size + 2) (by simp)).trans ((Below.heap_setCell W2 ⟨w.heap.size + 1, 0, none⟩ (.int .i64 (sgm s m)) (w.heap.size + 2) (by simp)).trans HX2.out)) 0 (.int .i64 0)
    have r0 := cell_of_heap j1' 0; have r1 := cell_of_heap j1' 1; have r2 := cell_of_heap j2 0
    simp at r0 r1 r2
    have hbl : Below w.heap.size w (((W2.setCell ⟨w.heap.size + 1, 0, none⟩ (.int .i64 (sgm s m))).setCell ⟨w.heap.size + 1, 1, none⟩ (.int .i64 x)).setCell ⟨w.heap.size + 2, 0, none⟩ (.int .i64 0)) := by
      have h0 := below_then' HBEL.out HB2.out
      exact ((h0.setCell (p := ⟨w.heap.size + 1, 0, none⟩) (by simp) _).setCell (p := ⟨w.heap.size + 1, 1, none⟩) (by simp) _).setCell (p := ⟨w.heap.size + 2, 0, none⟩) (by simp) _
    simp [Leaves, settle, results, Tryz.results88, go_sem, r0, r1, r2]
    exact ⟨rfl, hbl⟩
end Go.Proofs.YtekbfommnmikbaaGreatDoor
