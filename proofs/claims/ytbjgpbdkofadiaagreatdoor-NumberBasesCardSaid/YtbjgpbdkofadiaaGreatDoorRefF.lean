/- The reference's order. -/
import Derived.Test.YtbjgpbdkofadiaaGreatDoorRefE
namespace Go.Proofs.YtbjgpbdkofadiaaGreatDoor
set_option linter.unusedVariables false
set_option linter.unusedSimpArgs false
open Go.RowKit
attribute [local go_sem ↓] Go.wp_at_zero Go.wp_at_succ

theorem nbh1 (w : World) (o : Obj) : (w.alloc o).drew.heap[w.heap.size]? = some o := heap_alloc_new w o

theorem box0 {w : World} {g : Nat} {a b : Value} {t : TypeId} (h : w.heap[g]? = some (.cells #[a, b] t (0, 0))) : w.cell? ⟨g, 0, none⟩ = some a := cell_of_heap h 0
theorem box1 {w : World} {g : Nat} {a b : Value} {t : TypeId} (h : w.heap[g]? = some (.cells #[a, b] t (0, 0))) : w.cell? ⟨g, 1, none⟩ = some b := cell_of_heap h 1
theorem ri_parts {w : World} {A : Option Addr} {n c : Nat} {b : Bool} {z : Int} (h : Ri w (.agg #[.slice A n c, .bool b]) z) : n = (dg 10 z.natAbs).length ∧ b = decide (z < 0) := by
  obtain ⟨p, e, A', c', rfl, -⟩ := h
  simp at e
  exact ⟨e.1.2.1, e.2⟩
theorem len_ne {z : Int} (h : z ≠ 0) : (((dg 10 z.natAbs).length : Int) == 0) = false := by
  have h1 := dg_eq_nil (b := 10) (n := z.natAbs) (by decide)
  rw [← List.length_eq_zero_iff] at h1
  rw [beq_eq_false_iff_ne]; omega

set_option maxRecDepth 100000 in
set_option maxHeartbeats 4000000 in
theorem rorder_c (v1 v2 : Value) (x y : Int) (w : World) (h1 : Ri w v1 x) (h2 : Ri w v2 y) (hm : (dg 10 x.natAbs).length ≤ 1000000) (hn : (dg 10 y.natAbs).length ≤ 1000000) :
    Calls Tryz.prog 46 #[v1, v2] w fun e w' => e = .returned (.int .i64 (sgn (x - y))) ∧ Below w.heap.size w w' := by
  have HM := Lib.hid (And.intro hm (show (dg 10 (-y).natAbs).length ≤ 1000000 by rw [Int.natAbs_neg]; exact hn))
  obtain ⟨A1, n1, c1, bx, rfl⟩ := h1.form
  obtain ⟨A2, n2, c2, by_, rfl⟩ := h2.form
  obtain ⟨W, hW, hh0, hh1, hbel, hsz⟩ := boxes2h w #[.slice A1 n1 c1, .bool bx] #[.slice A2 n2 c2, .bool by_] 32 32
  have c00 := heap_box hh0 0; have c01 := heap_box hh0 1; have c10 := heap_box hh1 0; have c11 := heap_box hh1 1
  simp at c00 c01 c10 c11
  have HX : Hid (∀ w', Below W.heap.size W w' → Ri w' (.agg #[.slice A1 n1 c1, .bool bx]) x) := fun w' hb => (h1.below hbel.to).below hb
  have HY : Hid (∀ w', Below W.heap.size W w' → Ri w' (.agg #[.slice A2 n2 c2, .bool by_]) y) := fun w' hb => (h2.below hbel.to).below hb
  have HBEL := Lib.hid hbel.to
  have HSZ := Lib.hid hsz
  have HW := Lib.hid hW
  clear h1 h2 hm hn hh0 hh1 hbel hsz hW
  go_enter Tryz.func46, Tryz.ntmps46
  go_upto_region 1 with fail
  try rw [HW.out]
  go_cut [5] from 2 to 6 (fun p5 wx => ∃ (g n c : Nat) (A : Option Addr) (b : Bool), p5 = .pointer (some ⟨g, 0, none⟩) ∧ wx.cell? ⟨g, 0, none⟩ = some (.slice A n c) ∧ wx.cell? ⟨g, 1, none⟩ = some (.bool b) ∧ Hid (Ri wx (.agg #[.slice A n c, .bool b]) (x - y)) ∧ Hid (Below w.heap.size w wx))
  case first =>
    have a00 : ∀ o, (W.alloc o).cell? ⟨w.heap.size, 0, none⟩ = some (.slice A1 n1 c1) := fun o => keep_cell ((Below.refl _ _).alloc (Nat.le_refl _) o) c00
    have a01 : ∀ o, (W.alloc o).cell? ⟨w.heap.size, 1, none⟩ = some (.bool bx) := fun o => keep_cell ((Below.refl _ _).alloc (Nat.le_refl _) o) c01
    have a10 : ∀ o, (W.alloc o).cell? ⟨w.heap.size + 1, 0, none⟩ = some (.slice A2 n2 c2) := fun o => keep_cell ((Below.refl _ _).alloc (Nat.le_refl _) o) c10
    have a11 : ∀ o, (W.alloc o).cell? ⟨w.heap.size + 1, 1, none⟩ = some (.bool by_) := fun o => keep_cell ((Below.refl _ _).alloc (Nat.le_refl _) o) c11
    go_region_with (first
      | (go_at_call 81; go_loud (refine (rminus_c _ y _ (HY.out _ ?_)).mono ?_; (first | (with_reducible exact (Below.refl _ _).drew) | (with_reducible exact ((Below.refl _ _).alloc (Nat.le_refl _) _).drew)); rintro e W2 ⟨u, rfl, hu, hbz⟩; obtain ⟨A3, n3, c3, b3, rfl⟩ := hu.form; have HU := Lib.hid hu; (first | (with_reducible (have hbx := heap_below (nbh1 W (.cells #[.slice none 0 0, .bool false] 32)) hbz; have e0 := box0 hbx; have e1 := box1 hbx; have z0 := free_of_heap hbx 0; have z1 := free_of_heap hbx 1)) | skip); have HB2 : Hid (Below W.heap.size W W2) := (by first | (with_reducible exact Lib.hid (below_then' (Below.refl _ _).drew hbz)) | (with_reducible exact Lib.hid (below_then' ((Below.refl _ _).alloc (Nat.le_refl _) _).drew hbz))); have a00 : ∀ o, (W2.alloc o).cell? ⟨w.heap.size, 0, none⟩ = some (.slice A1 n1 c1) := fun o => keep_cell (HB2.out.alloc HB2.out.size o) c00; have a01 : ∀ o, (W2.alloc o).cell? ⟨w.heap.size, 1, none⟩ = some (.bool bx) := fun o => keep_cell (HB2.out.alloc HB2.out.size o) c01; have c00 := keep_cell HB2.out c00; have c01 := keep_cell HB2.out c01; clear hbz hu))
      | (go_at_call 47; refine (rsum_c _ _ x (-y) _ (HX.out _ ?_) (HU.out.below ?_) HM.out.1 HM.out.2).mono ?_; (first | (with_reducible exact HB2.out) | (with_reducible exact HB2.out.alloc HB2.out.size _)); (first | (with_reducible exact Below.refl _ _) | (with_reducible exact (Below.refl _ _).alloc (Nat.le_refl _) _)); rintro e W3 ⟨u, rfl, hu, hbz⟩; obtain ⟨A4, n4, c4, b4, rfl⟩ := hu.form; have HV := Lib.hid hu; (first | (with_reducible (have hbx := heap_below hbx hbz; have e0 := box0 hbx; have e1 := box1 hbx; have z0 := free_of_heap hbx 0; have z1 := free_of_heap hbx 1)) | (with_reducible (have hbx := heap_below (heap_alloc_new W2 (.cells #[.slice none 0 0, .bool false] 32)) hbz; have e0 := box0 hbx; have e1 := box1 hbx; have z0 := free_of_heap hbx 0; have z1 := free_of_heap hbx 1)) | skip); have HB3 : Hid (Below W.heap.size W W3) := (by first | (with_reducible exact Lib.hid (below_then' HB2.out hbz)) | (with_reducible exact Lib.hid (below_then' (HB2.out.alloc HB2.out.size _) hbz))); clear hbz hu))
    all_goals
      go_wp2_with fail
      (first
      | (obtain ⟨F, hF, r0, r1, hr, hbf⟩ := ri_put HV.out hbx; rw [hF])
      | (obtain ⟨F, hF, r0, r1, hr, hbf⟩ := ri_alloc 32 HV.out; rw [hF]))
      go_meet
      have hs2 := HB2.out.size
      have hs3 := HB3.out.size
      rw [← Int.sub_eq_add_neg] at hr
      exact ⟨_, _, _, _, _, rfl, r0, r1, hr, hbf _ _ (by have := HSZ.out; omega) (below_then' HBEL.out HB3.out)⟩
  case rest =>
    obtain ⟨g, n, c, A, b, rfl, e0, e1, HR, HB⟩ := hcut
    obtain ⟨hn, hb⟩ := ri_parts HR.out
    obtain ⟨s, hs⟩ : ∃ s, sgn (x - y) = s := ⟨_, rfl⟩
    have HS := Lib.hid hs
    rcases Int.lt_trichotomy (x - y) 0 with h | h | h
    · have hn0 : ((n : Int) == 0) = false := by rw [hn]; exact len_ne (by omega)
      obtain rfl : b = true := by rw [hb]; simpa using h
      have hz : s = -1 := by rw [← hs]; exact sgn_lt h
      subst hz
      clear hs hn hb h
      go_wp2_with fail
      go_ret
      exact ⟨by rw [HS.out]; rfl, HB.out⟩
    · have hn0 : n = 0 := by rw [hn, h, Int.natAbs_zero, dg_zero]; rfl
      have hz : s = 0 := by rw [← hs, h]; rfl
      subst hz; subst hn0
      clear hs hn hb h
      go_wp2_with fail
      go_ret
      exact ⟨by rw [HS.out]; rfl, HB.out⟩
    · have hn0 : ((n : Int) == 0) = false := by rw [hn]; exact len_ne (by omega)
      obtain rfl : b = false := by rw [hb]; simp; omega
      have hz : s = 1 := by rw [← hs]; exact sgn_gt h
      subst hz
      clear hs hn hb h
      go_wp2_with fail
      go_ret
      exact ⟨by rw [HS.out]; rfl, HB.out⟩
end Go.Proofs.YtbjgpbdkofadiaaGreatDoor
