/- Package real: the quotient. -/
import Derived.Test.YtekbfommnmikbaaGreatDoorRealL
import Derived.BigRegion
namespace Go.Proofs.YtekbfommnmikbaaGreatDoor
set_option linter.unusedVariables false
set_option linter.unusedSimpArgs false
open Go.RowKit Go.Shelf Go.Proofs
attribute [local go_sem ↓] Go.wp_at_zero Go.wp_at_succ

set_option maxHeartbeats 1000000 in
theorem quotients_c (m n : Int) (w : World) : Calls Tryz.prog 179 #[.int .i64 m, .int .i64 n] w fun en w' => en = .returned (.func (.func 218) #[] #[.pointer (some ⟨w.heap.size, 0, none⟩), .pointer (some ⟨w.heap.size + 1, 0, none⟩)]) ∧ w' = (w.alloc (.cells #[.int .i64 m] 3)).alloc (.cells #[.int .i64 n] 3) := by
  go_enter Tryz.func179, Tryz.ntmps179
  go_wp2_with fail
  go_ret
  exact ⟨rfl, rfl⟩

/-- The digits of the first k, as a number: m 10^(k-1) / n. -/
theorem firsts_q {m n : Nat} (hn : 0 < n) : ∀ k, vd (firsts (qitem m n) (k + 1)) = ((m * 10 ^ k / n : Nat) : Int) ∧ qm m n k % n = m * 10 ^ k % n := by
  have key : ∀ k, ∃ D : Nat, vd (firsts (qitem m n) (k + 1)) = (D : Int) ∧ D * n + qm m n k % n = m * 10 ^ k := by
    intro k
    induction k with
    | zero =>
      refine ⟨m / n, ?_, ?_⟩
      · rw [firsts_succ]
        simp [firsts, vd, qitem, qm]
      · simp only [qm, Nat.pow_zero, Nat.mul_one]
        rw [Nat.mul_comm]; exact Nat.div_add_mod m n
    | succ k ih =>
      obtain ⟨D, h1, h2⟩ := ih
      refine ⟨10 * D + qm m n k % n * 10 / n, ?_, ?_⟩
      · rw [firsts_succ, vd_snoc, h1]
        show 10 * (D : Int) + ((qm m n k % n * 10 / n : Nat) : Int) = _
        rw [Int.natCast_add, Int.natCast_mul]; rfl
      · exact quo_step hn h2 (Nat.mod_lt _ hn)
  intro k
  obtain ⟨D, h1, h2⟩ := key k
  obtain ⟨e1, e2⟩ := quo_done h2 (Nat.mod_lt _ hn)
  rw [h1, e1]
  exact ⟨rfl, e2⟩

theorem taken_c (gf : Nat) (lb : Array Value) (item : Nat → Int × Bool) (many mb : Nat) (w : World) (eg : ∀ args w, (callFunc gf args).run Tryz.prog w = .ok (.enter gf args) w) (hseq : Endless Fence.wide 5 Tryz.prog gf lb item w.heap.size mb many w) (hmb : mb < w.heap.size) (hit : ∀ k, 0 ≤ (item k).1 ∧ (item k).1 < 10) (h0 : 0 < many) (hmax : many ≤ 1000) :
    Calls Tryz.prog 178 #[.int .i64 (many : Int), .func (.func gf) #[] lb] w fun en w' => ∃ A c, en = .returned (.tuple #[.slice A many c, .bool (lastMore item many)]) ∧ many ≤ c ∧ c ≤ 9223372036854775807 ∧ Row .u8 w' A (firsts item many) ∧ Kb mb w w' := callsIn_wide.1 (taken_in gf lb item many mb w eg hseq hmb hit h0 hmax)

set_option maxRecDepth 100000 in
set_option maxHeartbeats 4000000 in
theorem quotient_c (xm xe ym ye : Int) (w : World) (hx : RV xm.natAbs xe) (hy : RV ym.natAbs ye) (hy0 : ym ≠ 0) :
    Calls Tryz.prog 121 #[.agg #[.int .i64 xm, .int .i64 xe], .agg #[.int .i64 ym, .int .i64 ye]] w fun en w' => ∃ v, en = .returned v ∧ Amt w' v (decide (xm < 0) != decide (ym < 0)) (firsts (qitem xm.natAbs ym.natAbs) 14) (xe - ye - 13) (lastMore (qitem xm.natAbs ym.natAbs) 14) ∧ Below w.heap.size w w' := by
  obtain ⟨W, hW, k0, k1, k2, hbel⟩ := bx3h w #[.int .i64 xm, .int .i64 xe] #[.int .i64 ym, .int .i64 ye] #[.bool false, .slice none 0 0, .int .i64 0, .bool false] 23 23 95
  have hsz : W.heap.size = w.heap.size + 3 := by rw [← hW]; simp
  obtain ⟨x0, x1, x2⟩ := RV_abs hx
  obtain ⟨y0, y1, y2⟩ := RV_abs hy
  have hxl : -9223372036854775807 ≤ xm := by omega
  have hxu : xm ≤ 9223372036854775807 := by omega
  have hyl : -9223372036854775807 ≤ ym := by omega
  have hyu : ym ≤ 9223372036854775807 := by omega
  have hM : xm.natAbs < 10 * ym.natAbs := by
    unfold RV at hx hy; omega
  have hN0 : 0 < ym.natAbs := by omega
  obtain ⟨M, hMe⟩ : ∃ M, xm.natAbs = M := ⟨_, rfl⟩
  obtain ⟨N, hNe⟩ : ∃ N, ym.natAbs = N := ⟨_, rfl⟩
  rw [hMe] at hM x0; rw [hNe] at hM hN0 y0
  rw [hMe, hNe]
  have HM := Lib.hid hMe; have HN := Lib.hid hNe
  obtain ⟨more, hmore⟩ : ∃ more, lastMore (qitem M N) 14 = more := ⟨_, rfl⟩
  obtain ⟨ds, hds⟩ : ∃ ds, firsts (qitem M N) 14 = ds := ⟨_, rfl⟩
  have HIT := Lib.hid (qitem_dig hN0 hM)
  rw [hmore, hds]
  have HMO := Lib.hid hmore; have HDS := Lib.hid hds
  have c00 := cell_of_heap k0 0; have c01 := cell_of_heap k0 1; have c10 := cell_of_heap k1 0; have c11 := cell_of_heap k1 1
  simp at c00 c01 c10 c11
  have HK2 := Lib.hid k2; have HBEL := Lib.hid hbel; have HSZ := Lib.hid hsz
  have HSS : Hid (∀ w', Bel (w.heap.size + 3) W w' → w'.cell? ⟨w.heap.size, 0, none⟩ = some (.int .i64 xm) ∧ w'.cell? ⟨w.heap.size, 1, none⟩ = some (.int .i64 xe) ∧ w'.cell? ⟨w.heap.size + 1, 0, none⟩ = some (.int .i64 ym) ∧ w'.cell? ⟨w.heap.size + 1, 1, none⟩ = some (.int .i64 ye) ∧ Bel (w.heap.size + 3) W w') := fun w' h => ⟨(h.to_.cell (p := ⟨w.heap.size, 0, none⟩) (by simp)).trans c00, (h.to_.cell (p := ⟨w.heap.size, 1, none⟩) (by simp)).trans c01, (h.to_.cell (p := ⟨w.heap.size + 1, 0, none⟩) (by simp)).trans c10, (h.to_.cell (p := ⟨w.heap.size + 1, 1, none⟩) (by simp)).trans c11, h⟩
  have HTK : Hid (∀ Wq : World, Wq.heap[W.heap.size]? = some (.cells #[.int .i64 (M : Int)] 3 (0, 0)) → Wq.heap[W.heap.size + 1]? = some (.cells #[.int .i64 (N : Int)] 3 (0, 0)) → Wq.heap.size = W.heap.size + 2 → Below W.heap.size W Wq →
      Calls Tryz.prog 178 #[.int .i64 14, .func (.func 218) #[] #[.pointer (some ⟨W.heap.size, 0, none⟩), .pointer (some ⟨W.heap.size + 1, 0, none⟩)]] Wq fun en W9 => ∃ A c, en = .returned (.tuple #[.slice A 14 c, .bool more]) ∧ (14 ≤ c ∧ c ≤ 9223372036854775807 ∧ Row .u8 W9 A ds) ∧ Bel (w.heap.size + 3) W W9 ∧ W9.heap[w.heap.size + 1 + 1]? = some (.cells #[.bool false, .slice none 0 0, .int .i64 0, .bool false] 95 (0, 0)) ∧ Below W.heap.size W W9) := by
    intro Wq h0 h1 hz hb
    have hsz := HSZ.out
    refine (taken_c 218 _ (qitem M N) 14 W.heap.size Wq (enters_of Tryz.func218 (by kernel_rfl) rfl) (quo1_endless M N W.heap.size (W.heap.size + 1) Wq.heap.size 14 Wq hN0 hM y0 (by omega) (by omega) (by omega) (Nat.le_refl _) h0 h1) (by omega) HIT.out (by decide) (by decide)).mono ?_
    rintro en W9 ⟨A9, c9, rfl, hc9, hm9, hr9, hk9⟩
    rw [HDS.out] at hr9
    rw [HMO.out]
    have hb9 : Below W.heap.size W W9 := hb.trans (hk9.below (by omega))
    exact ⟨A9, c9, rfl, ⟨hc9, hm9, hr9⟩, ⟨hb9.mono (by omega), by omega⟩, heapB hb9 HK2.out, hb9⟩
  have hbl := Bel.refl (w.heap.size + 3) W (by omega)
  clear k0 k1 k2 hbel hx hy hMe hNe hmore hds hsz
  rw [show xe - ye - 13 = xe - ye - 12 - 1 by omega]
  go_enter Tryz.func121, Tryz.ntmps121
  go_upto_region 1 with fail
  go_region_held3 (fun w' => w'.cell? ⟨w.heap.size, 0, none⟩ = some (.int .i64 xm) ∧ w'.cell? ⟨w.heap.size, 1, none⟩ = some (.int .i64 xe) ∧ w'.cell? ⟨w.heap.size + 1, 0, none⟩ = some (.int .i64 ym) ∧ w'.cell? ⟨w.heap.size + 1, 1, none⟩ = some (.int .i64 ye) ∧ Bel (w.heap.size + 3) W w')
    ((go_split_ands; (with_reducible refine HSS.out _ ?_); (repeat (first | (with_reducible assumption) | (with_reducible refine Bel.call ?_ hbz) | (with_reducible refine Bel.alloc ?_ _) | (with_reducible refine Bel.drew ?_) | (with_reducible refine Bel.set ?_ _ (by first | exact Nat.le_refl _ | (simp; done) | (simp; omega)))))))
    (first
      | (go_at_call 100; (with_reducible refine (size_c xm _ hxl hxu).mono ?_); rintro en w' ⟨rfl, rfl⟩; rw [HM.out])
      | (go_at_call 100; (with_reducible refine (size_c ym _ hyl hyu).mono ?_); rintro en w' ⟨rfl, rfl⟩; rw [HN.out])
      | (go_at_call 179; (with_reducible refine (quotients_c _ _ _).mono ?_); rintro en Wq ⟨rfl, hwq⟩; have hq0 : Wq.heap[W.heap.size]? = some (.cells #[.int .i64 (M : Int)] 3 (0, 0)) := (by rw [hwq]; exact heap_old _ (heap_alloc_new W.drew _)); have hq1 : Wq.heap[W.heap.size + 1]? = some (.cells #[.int .i64 (N : Int)] 3 (0, 0)) := (by rw [hwq]; exact heap_new' (W.drew.alloc (.cells #[.int .i64 (M : Int)] 3)) _ _ (by simp)); have hzq : Wq.heap.size = W.heap.size + 2 := (by rw [hwq]; simp); have hbz : Below W.drew.heap.size W.drew Wq := (by rw [hwq]; exact ((Below.refl _ _).alloc (Nat.le_refl _) _).alloc (by simp) _); have HQ0 := Lib.hid hq0; have HQ1 := Lib.hid hq1; have HBQ := Lib.hid (show Below W.heap.size W Wq from (Below.refl W.heap.size W).drew.trans hbz); clear hwq hq0 hq1)
      | (go_at_call 178; refine (HTK.out _ HQ0.out HQ1.out hzq HBQ.out).mono ?_; rintro en W9 ⟨A9, c9, rfl, hc9, hb9, hq9, hbw⟩; have HC9 := Lib.hid hc9; have HQ9 := Lib.hid hq9; have HB9 := Lib.hid hbw; clear hc9 hq9 hbw))
  all_goals
    go_split_ands
    have q0 := cell_of_heap HQ9.out 0; have q1 := cell_of_heap HQ9.out 1; have q2 := cell_of_heap HQ9.out 2; have q3 := cell_of_heap HQ9.out 3
    have z0 := free_of_heap HQ9.out 0; have z1 := free_of_heap HQ9.out 1; have z2 := free_of_heap HQ9.out 2; have z3 := free_of_heap HQ9.out 3
    simp at q0 q1 q2 q3
    go_wp2_with fail
    obtain ⟨sg, hsg⟩ : ∃ sg, (!decide (xm < 0) == decide (ym < 0)) = sg := ⟨_, rfl⟩
    have HSG : Hid ((decide (xm < 0) != decide (ym < 0)) = sg) := hsg
    rw [hsg]
    clear hsg
    obtain ⟨F, hF, hb, hk, ho⟩ := amt_put (s := sg) (n := 14) (c := c9) (A := A9) (e := xe - ye - 12 - 1) (more := more) HQ9.out
    rw [hF]
    have r0 := cell_of_heap hb 0; have r1 := cell_of_heap hb 1; have r2 := cell_of_heap hb 2; have r3 := cell_of_heap hb 3
    simp at r0 r1 r2 r3
    refine bodyPost_ret (v := .agg #[.bool sg, .slice A9 14 c9, .int .i64 (xe - ye - 12 - 1), .bool more]) (by simp [results, Tryz.results121, go_sem, r0, r1, r2, r3]) rfl ?_
    rw [HSG.out]
    have hl : ds.length = 14 := by rw [← HDS.out]; exact firsts_length _ _
    exact ⟨_, rfl, ⟨A9, c9, by rw [hl], by rw [hl]; exact HC9.out.1, HC9.out.2.1, row_off HC9.out.2.2 HQ9.out amt_cells ho⟩, hk _ _ (by omega) (HBEL.out.trans (HB9.out.mono (by have := HSZ.out; omega)))⟩
theorem firsts_inR {item : Nat → Int × Bool} (h : ∀ k, 0 ≤ (item k).1 ∧ (item k).1 < 10) (k : Nat) : InR 10 (firsts item k) := fun x hx => by
  obtain ⟨i, -, rfl⟩ := List.mem_map.1 hx
  exact h i
end Go.Proofs.YtekbfommnmikbaaGreatDoor
