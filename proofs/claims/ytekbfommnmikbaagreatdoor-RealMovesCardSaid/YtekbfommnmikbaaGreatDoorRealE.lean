/- Package real: the amount of a real. -/
import Derived.Test.YtekbfommnmikbaaGreatDoorRealD
namespace Go.Proofs.YtekbfommnmikbaaGreatDoor
set_option linter.unusedVariables false
set_option linter.unusedSimpArgs false
open Go.RowKit Go.Shelf Go.Proofs
attribute [local go_sem ↓] Go.wp_at_zero Go.wp_at_succ

theorem belowT {V w w' : World} (h : Below V.heap.size V w) (hb : Below w.heap.size w w') : Below V.heap.size V w' := h.trans (hb.mono h.size)
theorem belowA {V w : World} (h : Below V.heap.size V w) (o : Obj) : Below V.heap.size V (w.alloc o) := h.alloc h.size o

/-- v is an amount: the sign, digits, an exponent, more. -/
def Amt (w : World) (v : Value) (s : Bool) (ds : List Int) (e : Int) (more : Bool) : Prop := ∃ A c, v = .agg #[.bool s, .slice A ds.length c, .int .i64 e, .bool more] ∧ ds.length ≤ c ∧ c ≤ 9223372036854775807 ∧ Row .u8 w A ds
theorem Amt.below {w w' : World} {v : Value} {s more : Bool} {ds : List Int} {e : Int} (h : Amt w v s ds e more) (hb : Below w.heap.size w w') : Amt w' v s ds e more := by
  obtain ⟨A, c, h1, h2, h3, h4⟩ := h
  exact ⟨A, c, h1, h2, h3, h4.below hb⟩
/-- A call returns an amount, its digits in an array that is new (or nowhere). -/
def AmtP (s : Bool) (ds : List Int) (e : Int) (more : Bool) (w : World) (en : Ending) (w' : World) : Prop := ∃ v, en = .returned v ∧ Amt w' v s ds e more ∧ Below w.heap.size w w'
theorem rounded_a {v : Value} {s more : Bool} {ds : List Int} {e : Int} {w : World} (h : Amt w v s ds e more) (hi : InR 10 ds) (hl : ds.length ≤ 1000000) (he : -1000000000 ≤ e) (he2 : e ≤ 1000000000) :
    Calls Tryz.prog 88 #[v] w fun en w' => en = .returned (resR s (rnd (vd (withMore ds more)).toNat (expMore e more))) ∧ Below w.heap.size w w' := by
  obtain ⟨A, c, rfl, h2, h3, h4⟩ := h
  exact rounded_c s A c ds e more w h4 h2 h3 hi hl he he2

theorem row_set {k : IntKind} {w : World} {A : Option Addr} {xs : List Int} {n c B : Nat} {a : Addr} (h : Row k w A xs) (hf : FromB B (.slice A n c)) (ha : a.block < B) (v : Value) : Row k (w.setCell a v) A xs :=
  h.same fun g hg => Below.heap_setCell _ _ _ _ (by have := hf g.block (by rw [hg]; rfl); omega)

/-- An amount stored into a box. -/
theorem amt_put {w : World} {B n c : Nat} {A : Option Addr} {s more : Bool} {e : Int} {z0 z1 z2 z3 : Value} {t : TypeId} (h : w.heap[B]? = some (.cells #[z0, z1, z2, z3] t (0, 0))) :
    ∃ F, (((w.setCell ⟨B, 0, none⟩ (.bool s)).setCell ⟨B, 1, none⟩ (.slice A n c)).setCell ⟨B, 2, none⟩ (.int .i64 e)).setCell ⟨B, 3, none⟩ (.bool more) = F ∧ F.heap[B]? = some (.cells #[.bool s, .slice A n c, .int .i64 e, .bool more] t (0, 0)) ∧ (∀ k w0, k ≤ B → Below k w0 w → Below k w0 F) ∧ (∀ g, g ≠ B → F.heap[g]? = w.heap[g]?) := by
  have h1 := putB h 0 (.bool s)
  have h2 := putB h1 1 (.slice A n c)
  have h3 := putB h2 2 (.int .i64 e)
  have h4 := putB h3 3 (.bool more)
  refine ⟨_, rfl, by simpa using h4, fun k w0 hk hb => (((hb.setCell (p := ⟨B, 0, none⟩) hk _).setCell (p := ⟨B, 1, none⟩) hk _).setCell (p := ⟨B, 2, none⟩) hk _).setCell (p := ⟨B, 3, none⟩) hk _, fun g hg => ?_⟩
  rw [Below.heap_setCell _ _ _ _ hg, Below.heap_setCell _ _ _ _ hg, Below.heap_setCell _ _ _ _ hg, Below.heap_setCell _ _ _ _ hg]
theorem row_keep {k : IntKind} {w F : World} {A : Option Addr} {xs : List Int} {B n c k0 : Nat} (h : Row k w A xs) (hf : FromB k0 (.slice A n c)) (hk : B < k0) (hF : ∀ g, g ≠ B → F.heap[g]? = w.heap[g]?) : Row k F A xs :=
  h.same fun a ha => hF _ (by have := hf a.block (by rw [ha]; rfl); omega)

set_option maxRecDepth 100000 in
set_option maxHeartbeats 2000000 in
theorem amountOf_c (m x : Int) (w : World) (hm : m.natAbs < 10 ^ 18) : Calls Tryz.prog 87 #[.agg #[.int .i64 m, .int .i64 x]] w (AmtP (decide (m < 0)) (dg 10 m.natAbs).reverse x false w) := by
  obtain ⟨W, hW, k0, k1, hbel, hsz⟩ := bx2h w #[.int .i64 m, .int .i64 x] #[.bool false, .slice none 0 0, .int .i64 0, .bool false] 23 95
  have c00 := cell_of_heap k0 0; have c01 := cell_of_heap k0 1
  simp at c00 c01
  have HK0 := Lib.hid k0; have HK1 := Lib.hid k1; have HBEL := Lib.hid hbel; have HSZ := Lib.hid hsz
  have HM := Lib.hid hm
  have hm0 : -9223372036854775807 ≤ m := by omega
  have hm1 : m ≤ 9223372036854775807 := by omega
  obtain ⟨N, hN⟩ : ∃ N, m.natAbs = N := ⟨_, rfl⟩
  rw [hN] at HM ⊢
  have HN := Lib.hid hN
  obtain ⟨ds, hds⟩ : ∃ ds, (dg 10 N).reverse = ds := ⟨_, rfl⟩
  rw [hds]
  have HDS := Lib.hid hds
  obtain ⟨s, hs⟩ : ∃ s, decide (m < 0) = s := ⟨_, rfl⟩
  rw [hs]
  have hsz2 : w.heap.size + 1 < W.heap.size := by omega
  have HSS : Hid (∀ w', Bel (w.heap.size + 1) W w' → w'.cell? ⟨w.heap.size, 0, none⟩ = some (.int .i64 m) ∧ w'.cell? ⟨w.heap.size, 1, none⟩ = some (.int .i64 x) ∧ Bel (w.heap.size + 1) W w') := fun w' h => ⟨(h.to_.cell (p := ⟨w.heap.size, 0, none⟩) (by simp)).trans c00, (h.to_.cell (p := ⟨w.heap.size, 1, none⟩) (by simp)).trans c01, h⟩
  have hbl := Bel.refl (w.heap.size + 1) W (by omega)
  clear k0 k1 hbel hsz hm hN hds
  go_enter Tryz.func87, Tryz.ntmps87
  go_upto_region 1 with fail
  go_region_held3 (fun w' => w'.cell? ⟨w.heap.size, 0, none⟩ = some (.int .i64 m) ∧ w'.cell? ⟨w.heap.size, 1, none⟩ = some (.int .i64 x) ∧ Bel (w.heap.size + 1) W w')
    ((go_split_ands; (with_reducible refine HSS.out _ ?_); (repeat (first | (with_reducible assumption) | (with_reducible refine Bel.call ?_ hbz) | (with_reducible refine Bel.alloc ?_ _) | (with_reducible refine Bel.drew ?_) | (with_reducible refine Bel.set ?_ _ (by first | exact Nat.le_refl _ | (simp; done) | (simp; omega)))))))
    (first
      | (go_at_call 100; (with_reducible refine (size_c m _ hm0 hm1).mono ?_); rintro en w' ⟨rfl, rfl⟩; rw [HN.out])
      | (go_at_call 89; (with_reducible refine (digitsOf_c N _ HM.out).mono ?_); rintro en w' ⟨v, rfl, hv, hf, hbz⟩; rw [HDS.out] at hv; obtain ⟨A9, c9, rfl, hc9, hm9, hr9⟩ := hv; have HR9 := Lib.hid hr9; have HC9 := Lib.hid (And.intro hc9 hm9); have HF9 := Lib.hid hf; go_split_ands; have HB9 := Lib.hid (below_then' (show Below W.heap.size W _ from by first | exact Below.refl _ _ | exact (Below.refl _ _).drew) hbz); have q := heapB HB9.out HK1.out; have q0 := cell_of_heap q 0; have q1 := cell_of_heap q 1; have q2 := cell_of_heap q 2; have q3 := cell_of_heap q 3; have y0 := free_of_heap q 0; have y1 := free_of_heap q 1; have y2 := free_of_heap q 2; have y3 := free_of_heap q 3; have HQ := Lib.hid q; simp at q0 q1 q2 q3; clear hr9 hf hc9 hm9 q))
  all_goals
    go_wp2_with fail
    obtain ⟨F, hF, hb, hk, ho⟩ := amt_put (s := s) (n := ds.length) (c := c9) (A := A9) (e := x) (more := false) HQ.out
    rw [hF]
    have r0 := cell_of_heap hb 0; have r1 := cell_of_heap hb 1; have r2 := cell_of_heap hb 2; have r3 := cell_of_heap hb 3
    simp at r0 r1 r2 r3
    refine bodyPost_ret (v := .agg #[.bool s, .slice A9 ds.length c9, .int .i64 x, .bool false]) (by simp [results, Tryz.results87, go_sem, r0, r1, r2, r3]) rfl ?_
    exact ⟨_, rfl, ⟨A9, c9, rfl, HC9.out.1, HC9.out.2, row_keep HR9.out HF9.out (by have := HSZ.out; simp; omega) ho⟩, hk _ _ (by simp) (below_then' HBEL.out HB9.out)⟩
end Go.Proofs.YtekbfommnmikbaaGreatDoor
