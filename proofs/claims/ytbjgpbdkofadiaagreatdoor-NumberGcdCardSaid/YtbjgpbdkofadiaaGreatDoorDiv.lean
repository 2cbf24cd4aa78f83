/- Quo and Floor. -/
import Derived.Test.YtbjgpbdkofadiaaGreatDoorOps4
import Derived.Test.YtbjgpbdkofadiaaGreatDoorWith2
import Derived.Deep.CutRange
namespace Go.Proofs.YtbjgpbdkofadiaaGreatDoor
set_option linter.unusedVariables false
set_option linter.unusedSimpArgs false
open Go.RowKit Go.Shelf Go.Proofs

theorem old_cells {w w' : World} (h : Below w.heap.size w w') : ∀ a : Addr, a.block < w.heap.size → w'.cell? a = w.cell? a := fun a ha => h.cell ha
theorem old_free {w w' : World} (h : Below w.heap.size w w') : ∀ a : Addr, a.block < w.heap.size → w'.frozen? a = w.frozen? a := fun a ha => h.frozen ha
theorem set_sameS {w : World} {a : Addr} {v : Value} (h : (w.cell? a).isSome = true) : (w.setCell a v).cell? a = some v := by
  obtain ⟨u, hu⟩ := Option.isSome_iff_exists.1 h
  exact set_same v hu
theorem nw0 (W : World) (cs : Array Value) (t : TypeId) (i : Nat) (v : Value) (h : cs[i]? = some v) : (W.alloc (.cells cs t)).cell? ⟨W.heap.size, i, none⟩ = some v := (new_cell W cs t i).trans h
theorem nw0b (W : World) (cs : Array Value) (t : TypeId) (o : Obj) (i : Nat) (v : Value) (h : cs[i]? = some v) : ((W.alloc (.cells cs t)).alloc o).cell? ⟨W.heap.size, i, none⟩ = some v := keep_cell ((Below.refl _ _).alloc (Nat.le_refl _) _) ((new_cell W cs t i).trans h)
theorem nw0c (W : World) (cs : Array Value) (t : TypeId) (o : Obj) (i : Nat) (v : Value) (h : cs[i]? = some v) : ((W.alloc o).alloc (.cells cs t)).cell? ⟨W.heap.size + 1, i, none⟩ = some v := by
  have := new_cell (W.alloc o) cs t i
  rw [show (W.alloc o).heap.size = W.heap.size + 1 by simp] at this
  exact this.trans h
/-- Digits that lie between two blocks. -/
theorem dg_mid {W2 X : World} {v : Value} {n k : Nat} (h : Dg 1000000000 W2 v n) (hf : FromB k v) (hx : ∀ g, k ≤ g → g < W2.heap.size → X.heap[g]? = W2.heap[g]?) : Dg 1000000000 X v n := by
  by_cases h0 : n = 0
  · subst h0; exact dg_any h
  · exact h.same fun g hg => hx g (hf g hg) (dg_block (by decide) h h0 hg)
/-- Cells of blocks just made. -/
theorem nw1 (W : World) (cs : Array Value) (t : TypeId) (i : Nat) (v : Value) (h : cs[i]? = some v) : (W.alloc (.cells cs t)).drew.cell? ⟨W.heap.size, i, none⟩ = some v := (new_cell W cs t i).trans h
theorem nf1 (W : World) (cs : Array Value) (t : TypeId) (i : Nat) : (W.alloc (.cells cs t)).drew.frozen? ⟨W.heap.size, i, none⟩ = false := new_free W cs t i
theorem nw2 (W : World) (cs : Array Value) (t : TypeId) (o : Obj) (i : Nat) (v : Value) (h : cs[i]? = some v) : ((W.alloc (.cells cs t)).alloc o).drew.cell? ⟨W.heap.size, i, none⟩ = some v := keep_cell ((Below.refl _ _).alloc (Nat.le_refl _) _).drew ((new_cell W cs t i).trans h)
theorem nf2 (W : World) (cs : Array Value) (t : TypeId) (o : Obj) (i : Nat) (v : Value) (h : cs[i]? = some v) : ((W.alloc (.cells cs t)).alloc o).drew.frozen? ⟨W.heap.size, i, none⟩ = false := keep_free' ((Below.refl _ _).alloc (Nat.le_refl _) _).drew ((new_cell W cs t i).trans h) (new_free W cs t i)
theorem nw3 (W : World) (cs : Array Value) (t : TypeId) (o : Obj) (i : Nat) (v : Value) (h : cs[i]? = some v) : ((W.alloc o).alloc (.cells cs t)).drew.cell? ⟨W.heap.size + 1, i, none⟩ = some v := by
  have := new_cell (W.alloc o) cs t i
  rw [show (W.alloc o).heap.size = W.heap.size + 1 by simp] at this
  exact this.trans h
theorem nf3 (W : World) (cs : Array Value) (t : TypeId) (o : Obj) (i : Nat) : ((W.alloc o).alloc (.cells cs t)).drew.frozen? ⟨W.heap.size + 1, i, none⟩ = false := by
  have := new_free (W.alloc o) cs t i
  rw [show (W.alloc o).heap.size = W.heap.size + 1 by simp] at this
  exact this

def tx (z : Int) : ByteArray := ⟨(Lib.itoa z).toArray⟩
/-- What a division makes. -/
def divOut (Q R y : Int) : Out := if y = 0 then .err 5 else if Q.natAbs < 10 ^ 200 then .ok (.agg #[.string (tx Q), .string (tx R)]) else .err 3

set_option maxHeartbeats 1000000 in
theorem divided1_zero (lv : Value) (b : Addr) (x : Int) (w : World) (h : Whs w lv [x, 0]) :
    Calls Tryz.prog 110 #[lv, .pointer (some b)] w fun e w' => e = (Out.err 5).end_ ∧ Below w.heap.size w w' := by
  obtain ⟨a, c, p, q, rfl, c0, c1, hp, c2, c3, hq⟩ := h.two
  obtain ⟨A7, c7, hq7, -, -, -⟩ := hq
  rw [show (0 : Int).natAbs = 0 from rfl, dg_zero] at hq7
  simp only [List.length_nil] at hq7
  subst hq7
  have k2 := keep_cell ((Below.refl w.heap.size w).alloc (Nat.le_refl _) (.cells #[.string ⟨#[]⟩, .string ⟨#[]⟩] 125)) c2
  have k3 := keep_cell ((Below.refl w.heap.size w).alloc (Nat.le_refl _) (.cells #[.string ⟨#[]⟩, .string ⟨#[]⟩] 125)) c3
  clear h hp
  go_enter Tryz.func110, Tryz.ntmps110
  go_wp2_with fail
  exact ⟨rfl, rfl, (by repeat (first | exact Below.refl _ _ | exact HB.out | (refine Below.alloc ?_ (by first | (simp; done) | (simp; omega)) _) | (refine Below.setCell ?_ (by first | (simp; done) | (simp; omega)) _) | refine Below.drew ?_ | refine below_drewN ?_ _))⟩

set_option maxRecDepth 100000 in
set_option maxHeartbeats 8000000 in
theorem divided1_some (g : Nat) (eg : ∀ args w, (callFunc g args).run Tryz.prog w = .ok (.enter g args) w) (lv : Value) (b : Addr) (x y Q R : Int) (w : World) (h : Whs w lv [x, y]) (ht : Tabs w) (hy : y ≠ 0) (hb : w.cell? b = some (.func (.func g) #[] #[]))
    (hf : ∀ W v1 v2, Wh W v1 x → Wh W v2 y → Calls Tryz.prog g #[v1, v2] W (TwoP Q R W)) (hQ : (dg 1000000000 Q.natAbs).length ≤ 1000000) (hR : R.natAbs < 10 ^ 200) :
    Calls Tryz.prog 110 #[lv, .pointer (some b)] w fun e w' => e = (divOut Q R y).end_ ∧ Below w.heap.size w w' := by
  obtain ⟨a, c, p, q, rfl, c0, c1, hp, c2, c3, hq⟩ := h.two
  have HT := Lib.hid ht
  obtain ⟨W, hW, kk, ff, hbel, hsz⟩ := boxes1 w #[.string ⟨#[]⟩, .string ⟨#[]⟩] 125
  have HX : Hid (∀ W', Below W.heap.size W W' → Wh W' (.agg #[.bool (decide (x < 0)), p]) x) := fun W' hb => ⟨p, rfl, (hp.below hbel.to).below hb⟩
  have HY : Hid (∀ W', Below W.heap.size W W' → Wh W' (.agg #[.bool (decide (y < 0)), q]) y) := fun W' hb => ⟨q, rfl, (hq.below hbel.to).below hb⟩
  have HFF := Lib.hid hf
  obtain ⟨A6, n6, c6, rfl⟩ := hp.form
  obtain ⟨L, hL⟩ : ∃ L, (dg 1000000000 y.natAbs).length = L := ⟨_, rfl⟩
  have hl0 : 0 < L := by rw [← hL]; exact List.length_pos_iff.2 fun e => by have := (dg_eq_nil (by decide)).1 e; omega
  obtain ⟨A7, c7, hp7, -, -, -⟩ := hq
  rw [hL] at hp7
  subst hp7
  have hl1 : ((L : Int) == 0) = false := by simp; omega
  generalize hbx : decide (x < 0) = bx at *
  generalize hby : decide (y < 0) = by_ at *
  have ha0 : a < W.heap.size := by have := World.block_lt_of_cell? w _ c0; simp at this; omega
  have hb0 : b.block < W.heap.size := by have := World.block_lt_of_cell? w _ hb; omega
  have k0 := keep_cell hbel.to c0
  have k1 := keep_cell hbel.to c1
  have k2 := keep_cell hbel.to c2
  have k3 := keep_cell hbel.to c3
  have kb := keep_cell hbel.to hb
  have r0 := kk 0
  have r1 := kk 1
  have g0 := ff 0
  have g1 := ff 1
  simp at r0 r1
  have HBEL := Lib.hid hbel
  have HSZ : Hid (W.heap.size = w.heap.size + 1) := hsz
  have HWW := Lib.hid hW
  rw [← hW] at k0 k1 k2 k3
  clear h ht hp hf hbx hby hL kk ff hbel hsz c0 c1 c2 c3 hb
  clear hW
  go_enter Tryz.func110, Tryz.ntmps110
  go_upto_region 3 with fail
  rw [HWW.out] at k0 k1 k2 k3
  try rw [HWW.out]
  go_cut [4, 5] from 14 to 24 (fun p4 p5 wx => ∃ (b4 b5 : Nat) (Au Av : Option Addr) (nu cu nv cv : Nat), p4 = .pointer (some ⟨b4, 0, none⟩) ∧ p5 = .pointer (some ⟨b5, 0, none⟩) ∧ wx.cell? ⟨b4, 0, none⟩ = some (.bool (decide (Q < 0))) ∧ wx.cell? ⟨b4, 1, none⟩ = some (.slice Au nu cu) ∧ wx.cell? ⟨b5, 0, none⟩ = some (.bool (decide (R < 0))) ∧ wx.cell? ⟨b5, 1, none⟩ = some (.slice Av nv cv) ∧ Hid (Dg 1000000000 wx (.slice Au nu cu) Q.natAbs ∧ Dg 1000000000 wx (.slice Av nv cv) R.natAbs ∧ Below W.heap.size W wx))
  case first =>
    have hbw : Bel W.heap.size W W := Bel.refl _ _ (Nat.le_refl _)
    go_region_held3 (fun w' => w'.cell? ⟨a, 0, none⟩ = some (.bool bx) ∧ w'.cell? ⟨a, 1, none⟩ = some (.slice A6 n6 c6) ∧ w'.cell? ⟨a, 2, none⟩ = some (.bool by_) ∧ w'.cell? ⟨a, 3, none⟩ = some (.slice A7 L c7) ∧ w'.cell? b = some (.func (.func g) #[] #[]) ∧ Bel W.heap.size W w')
      ((go_split_ands; and_intros <;> (first | (with_reducible assumption) | ((repeat (first | (with_reducible assumption) | (with_reducible refine Bel.alloc ?_ _) | (with_reducible refine Bel.drew ?_) | (with_reducible refine Bel.set ?_ _ (by first | (simp; done) | (simp; omega))) | (with_reducible refine keep_cell ((Below.refl _ _).alloc (Nat.le_refl _) _) ?_) | (with_reducible refine keep_cell (Below.refl _ _).drew ?_) | (with_reducible refine set_far _ (by first | (simp; done) | (simp; omega)) ?_))); done) | (with_reducible exact keep_cell hbz (by assumption)) | (trace_state; fail))))
      ((go_at_fn g; refine (HFF.out _ _ _ (HX.out _ ?_) (HY.out _ ?_)).mono ?_; (go_split_ands; exact Bel.to (by assumption)); (go_split_ands; exact Bel.to (by assumption)); rintro e W2 ⟨u, v, rfl, hu, hv, hbz⟩; obtain ⟨bu, Au, nu, cu, rfl, hbu, -⟩ := hu.form; obtain ⟨bv, Av, nv, cv, rfl, hbv, -⟩ := hv.form; have HU := Lib.hid hu; have HV := Lib.hid hv; have HBZ := Lib.hid hbz; go_split_ands; have hbel2 := Bel.call (show Bel W.heap.size W _ by assumption) hbz; have q0 := keep_cell hbz (show World.cell? _ ⟨a, 0, none⟩ = some (.bool bx) by assumption); have q1 := keep_cell hbz (show World.cell? _ ⟨a, 1, none⟩ = some (.slice A6 n6 c6) by assumption); have q2 := keep_cell hbz (show World.cell? _ ⟨a, 2, none⟩ = some (.bool by_) by assumption); have q3 := keep_cell hbz (show World.cell? _ ⟨a, 3, none⟩ = some (.slice A7 L c7) by assumption); have q4 := keep_cell hbz (show World.cell? _ b = some (.func (.func g) #[] #[]) by assumption); have hcell := old_cells hbz; have hfrz := old_free hbz; have hm := hbz.size; simp at hm; (first | (with_reducible (have d00 := keep_cell hbz (nw2 W #[.bool false, .slice none 0 0] 72 (.cells #[.bool false, .slice none 0 0] 72) 0 _ rfl); have d01 := keep_cell hbz (nw2 W #[.bool false, .slice none 0 0] 72 (.cells #[.bool false, .slice none 0 0] 72) 1 _ rfl); have d10 := keep_cell hbz (nw3 W #[.bool false, .slice none 0 0] 72 (.cells #[.bool false, .slice none 0 0] 72) 0 _ rfl); have d11 := keep_cell hbz (nw3 W #[.bool false, .slice none 0 0] 72 (.cells #[.bool false, .slice none 0 0] 72) 1 _ rfl); have e00 := keep_free' hbz (nw2 W #[.bool false, .slice none 0 0] 72 (.cells #[.bool false, .slice none 0 0] 72) 0 _ rfl) (nf2 W #[.bool false, .slice none 0 0] 72 (.cells #[.bool false, .slice none 0 0] 72) 0 _ rfl); have e01 := keep_free' hbz (nw2 W #[.bool false, .slice none 0 0] 72 (.cells #[.bool false, .slice none 0 0] 72) 1 _ rfl) (nf2 W #[.bool false, .slice none 0 0] 72 (.cells #[.bool false, .slice none 0 0] 72) 1 _ rfl); have e10 := keep_free' hbz (nw3 W #[.bool false, .slice none 0 0] 72 (.cells #[.bool false, .slice none 0 0] 72) 0 _ rfl) (nf3 W #[.bool false, .slice none 0 0] 72 (.cells #[.bool false, .slice none 0 0] 72) 0); have e11 := keep_free' hbz (nw3 W #[.bool false, .slice none 0 0] 72 (.cells #[.bool false, .slice none 0 0] 72) 1 _ rfl) (nf3 W #[.bool false, .slice none 0 0] 72 (.cells #[.bool false, .slice none 0 0] 72) 1))) | (with_reducible (have d00 := keep_cell hbz (nw1 W #[.bool false, .slice none 0 0] 72 0 _ rfl); have d01 := keep_cell hbz (nw1 W #[.bool false, .slice none 0 0] 72 1 _ rfl); have e00 := keep_free' hbz (nw1 W #[.bool false, .slice none 0 0] 72 0 _ rfl) (nf1 W #[.bool false, .slice none 0 0] 72 0); have e01 := keep_free' hbz (nw1 W #[.bool false, .slice none 0 0] 72 1 _ rfl) (nf1 W #[.bool false, .slice none 0 0] 72 1)); have hne1 : W.heap.size ≠ W2.heap.size := (by omega); have hne2 : W2.heap.size ≠ W.heap.size := (by omega); have x00 := fun (o : Obj) => keep_cell ((Below.refl _ _).alloc (Nat.le_refl _) o) d00; have x01 := fun (o : Obj) => keep_cell ((Below.refl _ _).alloc (Nat.le_refl _) o) d01; have y00 := fun (o : Obj) => keep_free' ((Below.refl _ _).alloc (Nat.le_refl _) o) d00 e00; have y01 := fun (o : Obj) => keep_free' ((Below.refl _ _).alloc (Nat.le_refl _) o) d01 e01) | skip); clear hcell hfrz; clear hu hv))
    all_goals
      go_wp2_with fail
      go_meet
      refine ⟨_, _, Au, Av, nu, cu, nv, cv, rfl, rfl, ?_, ?_, ?_, ?_, ⟨?_, ?_, ?_⟩⟩
      · (repeat (first | (with_reducible assumption) | (with_reducible exact nw0 _ _ _ _ _ rfl) | (with_reducible exact nw0b _ _ _ _ _ _ rfl) | (with_reducible exact nw0c _ _ _ _ _ _ rfl) | ((with_reducible refine set_sameS ?_); (repeat (first | (with_reducible exact Option.isSome_iff_exists.2 ⟨_, d00⟩) | (with_reducible exact Option.isSome_iff_exists.2 ⟨_, d01⟩) | (with_reducible exact Option.isSome_iff_exists.2 ⟨_, d10⟩) | (with_reducible exact Option.isSome_iff_exists.2 ⟨_, d11⟩) | (with_reducible exact Option.isSome_iff_exists.2 ⟨_, x00 _⟩) | (with_reducible exact Option.isSome_iff_exists.2 ⟨_, x01 _⟩) | (with_reducible exact Option.isSome_iff_exists.2 ⟨_, nw0 _ _ _ _ _ rfl⟩) | (with_reducible refine some_set ?_))); done) | (with_reducible refine set_other _ (by first | (simp; done)) ?_) | (with_reducible refine set_far _ (by first | omega | (simp; done) | (simp; omega)) ?_)))
      · (repeat (first | (with_reducible assumption) | (with_reducible exact nw0 _ _ _ _ _ rfl) | (with_reducible exact nw0b _ _ _ _ _ _ rfl) | (with_reducible exact nw0c _ _ _ _ _ _ rfl) | ((with_reducible refine set_sameS ?_); (repeat (first | (with_reducible exact Option.isSome_iff_exists.2 ⟨_, d00⟩) | (with_reducible exact Option.isSome_iff_exists.2 ⟨_, d01⟩) | (with_reducible exact Option.isSome_iff_exists.2 ⟨_, d10⟩) | (with_reducible exact Option.isSome_iff_exists.2 ⟨_, d11⟩) | (with_reducible exact Option.isSome_iff_exists.2 ⟨_, x00 _⟩) | (with_reducible exact Option.isSome_iff_exists.2 ⟨_, x01 _⟩) | (with_reducible exact Option.isSome_iff_exists.2 ⟨_, nw0 _ _ _ _ _ rfl⟩) | (with_reducible refine some_set ?_))); done) | (with_reducible refine set_other _ (by first | (simp; done)) ?_) | (with_reducible refine set_far _ (by first | omega | (simp; done) | (simp; omega)) ?_)))
      · (repeat (first | (with_reducible assumption) | (with_reducible exact nw0 _ _ _ _ _ rfl) | (with_reducible exact nw0b _ _ _ _ _ _ rfl) | (with_reducible exact nw0c _ _ _ _ _ _ rfl) | ((with_reducible refine set_sameS ?_); (repeat (first | (with_reducible exact Option.isSome_iff_exists.2 ⟨_, d00⟩) | (with_reducible exact Option.isSome_iff_exists.2 ⟨_, d01⟩) | (with_reducible exact Option.isSome_iff_exists.2 ⟨_, d10⟩) | (with_reducible exact Option.isSome_iff_exists.2 ⟨_, d11⟩) | (with_reducible exact Option.isSome_iff_exists.2 ⟨_, x00 _⟩) | (with_reducible exact Option.isSome_iff_exists.2 ⟨_, x01 _⟩) | (with_reducible exact Option.isSome_iff_exists.2 ⟨_, nw0 _ _ _ _ _ rfl⟩) | (with_reducible refine some_set ?_))); done) | (with_reducible refine set_other _ (by first | (simp; done)) ?_) | (with_reducible refine set_far _ (by first | omega | (simp; done) | (simp; omega)) ?_)))
      · (repeat (first | (with_reducible assumption) | (with_reducible exact nw0 _ _ _ _ _ rfl) | (with_reducible exact nw0b _ _ _ _ _ _ rfl) | (with_reducible exact nw0c _ _ _ _ _ _ rfl) | ((with_reducible refine set_sameS ?_); (repeat (first | (with_reducible exact Option.isSome_iff_exists.2 ⟨_, d00⟩) | (with_reducible exact Option.isSome_iff_exists.2 ⟨_, d01⟩) | (with_reducible exact Option.isSome_iff_exists.2 ⟨_, d10⟩) | (with_reducible exact Option.isSome_iff_exists.2 ⟨_, d11⟩) | (with_reducible exact Option.isSome_iff_exists.2 ⟨_, x00 _⟩) | (with_reducible exact Option.isSome_iff_exists.2 ⟨_, x01 _⟩) | (with_reducible exact Option.isSome_iff_exists.2 ⟨_, nw0 _ _ _ _ _ rfl⟩) | (with_reducible refine some_set ?_))); done) | (with_reducible refine set_other _ (by first | (simp; done)) ?_) | (with_reducible refine set_far _ (by first | omega | (simp; done) | (simp; omega)) ?_)))
      · refine dg_mid HU.out.parts.1 HU.out.parts.2.1 (fun g' hg1 hg2 => ?_)
        simp at hg1
        (repeat (first | rfl | (rw [Below.heap_setCell _ _ _ _ (by first | omega | (simp; done) | (simp; omega))]) | (rw [Below.heap_alloc _ _ _ (by first | omega | (simp; done) | (simp; omega))])))
      · refine dg_mid HV.out.parts.1 HV.out.parts.2.1 (fun g' hg1 hg2 => ?_)
        simp at hg1
        (repeat (first | rfl | (rw [Below.heap_setCell _ _ _ _ (by first | omega | (simp; done) | (simp; omega))]) | (rw [Below.heap_alloc _ _ _ (by first | omega | (simp; done) | (simp; omega))])))
      · (repeat (first | (with_reducible exact hbel2.to) | (with_reducible refine Below.alloc ?_ (by first | omega | (simp; done) | (simp; omega)) _) | (with_reducible refine Below.setCell ?_ (by first | omega | (simp; done) | (simp; omega)) _)))
  case rest =>
    obtain ⟨b4, b5, Au, Av, nu, cu, nv, cv, rfl, rfl, e0, e1, e2, e3, HH⟩ := hcut
    have h0 := keep_cell HH.out.2.2 r0
    have h1 := keep_cell HH.out.2.2 r1
    have z0 := keep_free' HH.out.2.2 r0 g0
    have z1 := keep_free' HH.out.2.2 r1 g1
    have HQ : Hid (Wh wc.drew (.agg #[.bool (decide (Q < 0)), .slice Au nu cu]) Q) := ⟨_, rfl, HH.out.1.drew⟩
    have HR : Hid (∀ w', Below wc.drew.heap.size wc.drew w' → Wh w' (.agg #[.bool (decide (R < 0)), .slice Av nv cv]) R) := fun w' hb => ⟨_, rfl, HH.out.2.1.drew.below hb⟩
    have HBC : Hid (Below w.heap.size w wc.drew) := (below_then' HBEL.out.to HH.out.2.2).drew
    have d0 : wc.drew.cell? ⟨w.heap.size, 0, none⟩ = some (.string ⟨#[]⟩) := h0
    have d1 : wc.drew.cell? ⟨w.heap.size, 1, none⟩ = some (.string ⟨#[]⟩) := h1
    have d2 : wc.drew.frozen? ⟨w.heap.size, 0, none⟩ = false := z0
    have d3 : wc.drew.frozen? ⟨w.heap.size, 1, none⟩ = false := z1
    have d4 : wc.drew.cell? ⟨b5, 0, none⟩ = some (.bool (decide (R < 0))) := e2
    have d5 : wc.drew.cell? ⟨b5, 1, none⟩ = some (.slice Av nv cv) := e3
    have HRF : Hid (textOut R = .ok (.string (tx R))) := if_pos hR
    have HLR : Hid ((dg 1000000000 R.natAbs).length ≤ 1000000) := Nat.le_trans (len23 hR) (by decide)
    have HLQ := Lib.hid hQ
    by_cases hfit : Q.natAbs < 10 ^ 200
    · have HQF : Hid (textOut Q = .ok (.string (tx Q))) := if_pos hfit
      have HO : Hid (divOut Q R y = .ok (.agg #[.string (tx Q), .string (tx R)])) := by
        show _ = _
        unfold divOut
        rw [if_neg hy, if_pos hfit]
      clear hfit hy hR hQ r0 r1 g0 g1 k0 k1 k2 k3 kb hl0 hl1
      go_wp2_with fail
      go_region_with (first
        | (go_at_call 58; refine (text_out _ R _ HR3.out (HT.out.below HB3.out) HLR.out).mono ?_; rw [HRF.out]; rintro e W4 ⟨he, hbz⟩; have he2 : e = .returned (.string (tx R)) := he; subst he2; have d2 := keep_free' hbz d0 d2; have d3 := keep_free' hbz d1 d3; have d0 := keep_cell hbz d0; have d1 := keep_cell hbz d1; have HB4 := Lib.hid (below_then' HB3.out hbz); clear he hbz)
        | (go_at_call 58; refine (text_out _ Q _ HQ.out (HT.out.below HBC.out) HLQ.out).mono ?_; rw [HQF.out]; rintro e W3 ⟨he, hbz⟩; have he2 : e = .returned (.string (tx Q)) := he; subst he2; have d2 := keep_free' hbz d0 d2; have d3 := keep_free' hbz d1 d3; have d0 := keep_cell hbz d0; have d1 := keep_cell hbz d1; have d4 := keep_cell hbz d4; have d5 := keep_cell hbz d5; have HB3 := Lib.hid (below_then' HBC.out hbz); have HR3 := Lib.hid (HR.out _ hbz); clear he hbz))
      all_goals
        go_wp2
        have t0 := set_other (a := ⟨w.heap.size, 1, none⟩) (.string (tx R)) (by simp) (set_same (.string (tx Q)) d0)
        have t1 := set_same (.string (tx R)) (set_other (a := ⟨w.heap.size, 0, none⟩) (.string (tx Q)) (by simp) d1)
        refine bodyPost_ret (v := .agg #[.string (tx Q), .string (tx R)]) (by simp [results, Tryz.results110, go_sem, t0, t1]) rfl ?_
        exact ⟨by rw [HO.out]; rfl, (HB4.out.setCell (p := ⟨w.heap.size, 0, none⟩) (Nat.le_refl _) _).setCell (p := ⟨w.heap.size, 1, none⟩) (Nat.le_refl _) _⟩
    · have HQF : Hid (textOut Q = .err 3) := if_neg hfit
      have HO : Hid (divOut Q R y = .err 3) := by
        show _ = _
        unfold divOut
        rw [if_neg hy, if_neg hfit]
      clear hfit hy hR hQ r0 r1 g0 g1 k0 k1 k2 k3 kb hl0 hl1
      go_wp2_with fail
      go_region_dies
      all_goals
        go_at_call 58
        refine (text_out _ Q _ HQ.out (HT.out.below HBC.out) HLQ.out).mono ?_
        rw [HQF.out]
        rintro e W3 ⟨he, hbz⟩
        have he2 : e = .panicked (failChain 3) := he
        subst he2
        dsimp only
        first
          | exact ⟨rfl, by rw [HO.out]; rfl, below_then' HBC.out hbz⟩
          | (apply_assumption; exact ⟨rfl, by rw [HO.out]; rfl, below_then' HBC.out hbz⟩)

end Go.Proofs.YtbjgpbdkofadiaaGreatDoor
