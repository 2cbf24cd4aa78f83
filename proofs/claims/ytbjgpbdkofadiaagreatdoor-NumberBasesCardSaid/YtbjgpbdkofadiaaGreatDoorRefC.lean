/- The reference's integers: products, sums, opposites, order. -/
import Derived.Test.YtbjgpbdkofadiaaGreatDoorRefB
import Derived.Test.YtbjgpbdkofadiaaGreatDoorM4
namespace Go.Proofs.YtbjgpbdkofadiaaGreatDoor
set_option linter.unusedVariables false
set_option linter.unusedSimpArgs false
open Go.RowKit

/-- v is the reference's integer z. -/
def Ri (w : World) (v : Value) (z : Int) : Prop := ∃ p, v = .agg #[p, .bool (decide (z < 0))] ∧ Dg 10 w p z.natAbs
theorem Ri.below {w w' : World} {v : Value} {z : Int} (h : Ri w v z) (hb : Below w.heap.size w w') : Ri w' v z := by
  obtain ⟨p, e, hp⟩ := h
  exact ⟨p, e, hp.below hb⟩
theorem Ri.form {w : World} {v : Value} {z : Int} (h : Ri w v z) : ∃ A n c b, v = .agg #[.slice A n c, .bool b] := by
  obtain ⟨p, rfl, A, c, rfl, _⟩ := h
  exact ⟨_, _, _, _, rfl⟩
/-- A call returns the reference's integer z, newly. -/
def RiP (z : Int) (w : World) (e : Ending) (w' : World) : Prop := ∃ v, e = .returned v ∧ Ri w' v z ∧ Below w.heap.size w w'

/-- A result's box. -/
structure Rb (w : World) (b : Nat) : Prop where
  c0 : ∃ z, w.cell? ⟨b, 0, none⟩ = some z
  c1 : ∃ z, w.cell? ⟨b, 1, none⟩ = some z
  f0 : w.frozen? ⟨b, 0, none⟩ = false
  f1 : w.frozen? ⟨b, 1, none⟩ = false
theorem Rb.keep {w w' : World} {b : Nat} (h : Rb w b) (hb : Below w.heap.size w w') : Rb w' b := by
  obtain ⟨⟨z0, h0⟩, ⟨z1, h1⟩, f0, f1⟩ := h
  exact ⟨⟨z0, keep_cell hb h0⟩, ⟨z1, keep_cell hb h1⟩, keep_free' hb h0 f0, keep_free' hb h1 f1⟩
/-- Two stores into a box that lies ahead of the digits. -/
theorem ri_set {W2 : World} {B n : Nat} {p : Value} (b : Bool) {z0 z1 : Value} (h0 : W2.cell? ⟨B, 0, none⟩ = some z0) (h1 : W2.cell? ⟨B, 1, none⟩ = some z1) (hd : Dg 10 W2 p n) (hf : FromB (B + 1) p) :
    ∃ F, (W2.setCell ⟨B, 0, none⟩ p).setCell ⟨B, 1, none⟩ (.bool b) = F ∧ F.cell? ⟨B, 0, none⟩ = some p ∧ F.cell? ⟨B, 1, none⟩ = some (.bool b) ∧ Dg 10 F p n ∧ (∀ k w, k ≤ B → Below k w W2 → Below k w F) :=
  ⟨_, rfl, set_other _ (by simp) (set_same _ h0), set_same _ (set_other _ (by simp) h1), (hd.set hf (by simp) _).set hf (by simp) _, fun k w hk hb => (hb.setCell hk _).setCell hk _⟩

theorem neq_form (a b : Bool) : (!a == b) = (a != b) := by cases a <;> cases b <;> rfl
theorem prod_sign (x y : Int) : ((decide (x < 0) != decide (y < 0)) && decide (0 < x.natAbs * y.natAbs)) = decide (x * y < 0) := by
  rw [← mul_sign]
  cases decide (x < 0) <;> cases decide (y < 0) <;> rfl

set_option maxRecDepth 100000 in
set_option maxHeartbeats 2000000 in
theorem product_c (v1 v2 : Value) (x y : Int) (w : World) (h1 : Ri w v1 x) (h2 : Ri w v2 y) (hm : (dg 10 x.natAbs).length ≤ 1000000) (hn : (dg 10 y.natAbs).length ≤ 1000000) :
    Calls Tryz.prog 26 #[v1, v2] w (RiP (x * y) w) := by
  obtain ⟨p, rfl, hp⟩ := h1
  obtain ⟨q, rfl, hq⟩ := h2
  have hs := prod_sign x y
  obtain ⟨L, hL⟩ : ∃ L, (dg 10 (x.natAbs * y.natAbs)).length = L := ⟨_, rfl⟩
  have hl0 : decide (0 < x.natAbs * y.natAbs) = decide (0 < L) := by
    have h := dg_eq_nil (b := 10) (n := x.natAbs * y.natAbs) (by decide)
    rw [← List.length_eq_zero_iff, hL] at h
    rw [Bool.eq_iff_iff, decide_eq_true_iff, decide_eq_true_iff]; omega
  rw [hl0] at hs
  obtain ⟨s, hss⟩ : ∃ s, decide (x * y < 0) = s := ⟨_, rfl⟩
  rw [hss] at hs
  have HSS := Lib.hid hss
  have HL := Lib.hid hL
  have HM := Lib.hid (And.intro hm hn)
  obtain ⟨bx, hbx⟩ : ∃ b, decide (x < 0) = b := ⟨_, rfl⟩
  obtain ⟨by_, hby⟩ : ∃ b, decide (y < 0) = b := ⟨_, rfl⟩
  rw [hbx, hby] at hs
  rw [hbx, hby]
  obtain ⟨W, hW, hh0, hh1, hh2, hbel, hsz⟩ := boxes3h w #[p, .bool bx] #[q, .bool by_] #[.slice none 0 0, .bool false] 32 32 32
  have c00 := heap_box hh0 0; have c01 := heap_box hh0 1; have c10 := heap_box hh1 0; have c11 := heap_box hh1 1; have c20 := heap_box hh2 0; have c21 := heap_box hh2 1
  have f20 := free_of_heap hh2 0; have f21 := free_of_heap hh2 1
  simp at c00 c01 c10 c11 c20 c21
  have HP := Lib.hid (hp.below hbel.to)
  have HQ := Lib.hid (hq.below hbel.to)
  have HBEL := Lib.hid hbel.to
  have HSZ := Lib.hid hsz
  have HS := Lib.hid hs
  obtain ⟨A1, n1, c1, rfl⟩ := hp.form
  obtain ⟨A2, n2, c2, rfl⟩ := hq.form
  clear hp hq hh0 hh1 hh2 hbel hsz hm hn hbx hby hs hss hL hl0
  go_enter Tryz.func26, Tryz.ntmps26
  go_wp2_with (go_at_call 63; (with_reducible refine (natMul_c _ _ x.natAbs y.natAbs _ HP.out HQ.out HM.out.1 HM.out.2).mono ?_); rintro e W2 ⟨u, rfl, hu, hfu, hbz⟩; have HU := Lib.hid hu; have HFU := Lib.hid hfu; obtain ⟨A, c, hv, -, -, -⟩ := hu; rw [HL.out] at hv; subst hv; have f20 := keep_free' hbz c20 f20; have f21 := keep_free' hbz c21 f21; have c00 := keep_cell hbz c00; have c01 := keep_cell hbz c01; have c10 := keep_cell hbz c10; have c11 := keep_cell hbz c11; have c20 := keep_cell hbz c20; have c21 := keep_cell hbz c21; have HB2 := Lib.hid (below_then' HBEL.out hbz); clear hbz hfu)
  · obtain ⟨F, hF, r0, r1, hd, hbf⟩ := ri_set false c20 c21 HU.out (HFU.out.mono (by have := HSZ.out; omega))
    rw [hF]
    refine bodyPost_ret (v := .agg #[.slice A L c, .bool false]) (by simp [results, Tryz.results26, go_sem, r0, r1]) rfl ?_
    have hsf := HS.out
    rename_i hbe
    rw [hbe, bne_self_eq_false, Bool.false_and] at hsf
    exact ⟨_, rfl, ⟨_, by rw [HSS.out, hsf], by rw [Int.natAbs_mul]; exact hd⟩, hbf _ _ (by omega) HB2.out⟩
  · obtain ⟨F, hF, r0, r1, hd, hbf⟩ := ri_set (!bx == by_ && decide (0 < L)) c20 c21 HU.out (HFU.out.mono (by have := HSZ.out; omega))
    rw [hF]
    refine bodyPost_ret (v := .agg #[.slice A L c, .bool (!bx == by_ && decide (0 < L))]) (by simp [results, Tryz.results26, go_sem, r0, r1]) rfl ?_
    exact ⟨_, rfl, ⟨_, by rw [neq_form, HS.out, HSS.out], by rw [Int.natAbs_mul]; exact hd⟩, hbf _ _ (by omega) HB2.out⟩
end Go.Proofs.YtbjgpbdkofadiaaGreatDoor
