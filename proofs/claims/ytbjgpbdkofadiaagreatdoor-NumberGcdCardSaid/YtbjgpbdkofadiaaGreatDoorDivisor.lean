/- The greatest common divisor of integers, with factors. -/
import Derived.Test.YtbjgpbdkofadiaaGreatDoorComb
import Derived.Test.YtbjgpbdkofadiaaGreatDoorWhole5
import Derived.Deep.CutRange
import Derived.Test.YtbjgpbdkofadiaaGreatDoorDivI
namespace Go.Proofs.YtbjgpbdkofadiaaGreatDoor
set_option linter.unusedVariables false
set_option linter.unusedSimpArgs false
open Go.RowKit Go.Shelf Go.Proofs
attribute [local go_sem] max2_int min2_int max_two min_two

/-- What divisor returns. -/
def DivP (x y : Int) (w : World) (e : Ending) (w' : World) : Prop := ∃ b1 b2 b3 p1 p2 p3 G X Y, e = .returned (.agg #[.bool b1, p1, .bool b2, p2, .bool b3, p3]) ∧ Wh w' (.agg #[.bool b1, p1]) G ∧ Wh w' (.agg #[.bool b2, p2]) X ∧ Wh w' (.agg #[.bool b3, p3]) Y ∧ GcdP x y G X Y ∧ G.natAbs < 10 ^ 200 ∧ X.natAbs < 10 ^ 200 ∧ Y.natAbs < 10 ^ 200 ∧ Below w.heap.size w w'

theorem flip_sign (x x1 : Int) (b1 bx : Bool) (h1 : decide (x1 < 0) = b1) (h2 : decide (x < 0) = bx) : ((!b1 == bx) && decide (0 < x1.natAbs)) = decide ((if x < 0 then -x1 else x1) < 0) := by
  subst h1 h2
  by_cases h : x < 0
  · rw [if_pos h, decide_eq_true h]
    rcases Int.lt_trichotomy x1 0 with k | k | k
    · rw [decide_eq_true k, decide_eq_false (by omega : ¬ -x1 < 0)]; rfl
    · subst k; rfl
    · rw [decide_eq_false (by omega : ¬ x1 < 0), decide_eq_true (by omega : -x1 < 0), decide_eq_true (by omega : 0 < x1.natAbs)]; rfl
  · rw [if_neg h, decide_eq_false h]
    rcases Int.lt_trichotomy x1 0 with k | k | k
    · rw [decide_eq_true k, decide_eq_true (by omega : 0 < x1.natAbs)]; rfl
    · subst k; rfl
    · rw [decide_eq_false (by omega : ¬ x1 < 0)]; rfl

theorem flip_abs (x x1 : Int) : (if x < 0 then -x1 else x1).natAbs = x1.natAbs := by
  split
  · rw [Int.natAbs_neg]
  · rfl

theorem flip_sum {x y x1 s : Int} {g : Nat} (h : x1 * (x.natAbs : Int) + s * (y.natAbs : Int) = (g : Int)) : ∃ s', (if x < 0 then -x1 else x1) * x + s' * y = (g : Int) := by
  have e1 : (if x < 0 then -x1 else x1) * x = x1 * (x.natAbs : Int) := by
    by_cases k : x < 0
    · rw [if_pos k, show (x.natAbs : Int) = -x by omega]; grind
    · rw [if_neg k, show (x.natAbs : Int) = x by omega]
  by_cases k : y < 0
  · exact ⟨-s, by rw [e1, ← h, show (y.natAbs : Int) = -y by omega]; grind⟩
  · exact ⟨s, by rw [e1, ← h, show (y.natAbs : Int) = y by omega]⟩

theorem len_sq {a b c : Nat} (ha : a < 10 ^ 200) (hb : b < 10 ^ 200) (hc : c < 10 ^ 200) : (dg 1000000000 (a * b + c)).length ≤ 1000000 := by
  have h1 : a * b + c ≤ (a + 1) * (b + 10 ^ 200) := by
    rw [Nat.add_mul, Nat.mul_add]; omega
  refine Nat.le_trans (dg_length_mono (by decide) h1) ?_
  refine Nat.le_trans ((dg_length_le (by decide) _ (30 + 30)).2 ?_) (by decide)
  rw [Nat.pow_add]
  have k1 : a + 1 < 1000000000 ^ 30 := by
    have : (10 : Nat) ^ 201 ≤ 1000000000 ^ 30 := by decide
    omega
  have k2 : b + 10 ^ 200 < 1000000000 ^ 30 := by
    have : (10 : Nat) ^ 201 ≤ 1000000000 ^ 30 := by decide
    omega
  exact Nat.mul_lt_mul'' k1 k2

theorem alloc_cells {w w' : World} (h : Below w.heap.size w w') : ∀ (o : Obj) (a : Addr), a.block < w.heap.size → (w'.alloc o).cell? a = w.cell? a := fun o a ha => by
  have h2 := (h.trans ((Below.refl w.heap.size w').alloc h.size o))
  exact h2.cell ha
theorem alloc_free {w w' : World} (h : Below w.heap.size w w') : ∀ (o : Obj) (a : Addr), a.block < w.heap.size → (w'.alloc o).frozen? a = w.frozen? a := fun o a ha => by
  have h2 := (h.trans ((Below.refl w.heap.size w').alloc h.size o))
  exact h2.frozen ha
theorem set_sameS' {w : World} {a : Addr} {v : Value} (h : (w.cell? a).isSome = true) : (w.setCell a v).cell? a = some v := by
  obtain ⟨u, hu⟩ := Option.isSome_iff_exists.1 h
  exact set_same v hu
theorem nw0' (W : World) (cs : Array Value) (t : TypeId) (i : Nat) (v : Value) (h : cs[i]? = some v) : (W.alloc (.cells cs t)).cell? ⟨W.heap.size, i, none⟩ = some v := (new_cell W cs t i).trans h
theorem nw1' (W : World) (cs : Array Value) (t : TypeId) (o : Obj) (i : Nat) (v : Value) (h : cs[i]? = some v) : ((W.alloc o).alloc (.cells cs t)).cell? ⟨W.heap.size + 1, i, none⟩ = some v := by
  have := new_cell (W.alloc o) cs t i
  rw [show (W.alloc o).heap.size = W.heap.size + 1 by simp] at this
  exact this.trans h
theorem some_drew {w : World} {a : Addr} (h : (w.cell? a).isSome = true) : (w.drew.cell? a).isSome = true := h
theorem some_alloc {w : World} {a : Addr} (o : Obj) (h : (w.cell? a).isSome = true) : ((w.alloc o).cell? a).isSome = true := keep_some ((Below.refl _ _).alloc (Nat.le_refl _) _) h
theorem dg_mid' {W2 X : World} {v : Value} {n k : Nat} (h : Dg 1000000000 W2 v n) (hf : FromB k v) (hx : ∀ g, k ≤ g → g < W2.heap.size → X.heap[g]? = W2.heap[g]?) : Dg 1000000000 X v n := by
  by_cases h0 : n = 0
  · subst h0; exact dg_any h
  · exact h.same fun g hg => hx g (hf g hg) (dg_block (by decide) h h0 hg)
/-- Digits do not lie in a box of other things. -/
theorem dg_box {W : World} {v : Value} {n k : Nat} {cs : Array Value} {t : TypeId} {fz : Nat × Nat} (h : Dg 1000000000 W v n) (hn : n ≠ 0) (hbox : W.heap[k]? = some (.cells cs t fz)) (hcs : ∀ (i : Nat) x, cs[i]? = some x → ∀ kd z, x ≠ .int kd z) : v.ownBlock ≠ some k := by
  obtain ⟨A, c, rfl, _, _, hr⟩ := h
  have hl : 0 < (dg 1000000000 n).length := List.length_pos_iff.2 fun e => hn ((dg_eq_nil (by decide)).1 e)
  obtain ⟨a, rfl, hc⟩ := hr 0 hl
  rw [addr_zero] at hc
  intro e
  have hb : a.block = k := by simpa [Value.ownBlock] using e
  unfold World.cell? at hc
  rw [hb, hbox] at hc
  simp only [] at hc
  split at hc
  · cases hc
  · exact hcs _ _ hc _ _ rfl
theorem box_cells {x0 x1 x2 x3 x4 x5 : Value} (h0 : ∀ kd z, x0 ≠ .int kd z) (h1 : ∀ kd z, x1 ≠ .int kd z) (h2 : ∀ kd z, x2 ≠ .int kd z) (h3 : ∀ kd z, x3 ≠ .int kd z) (h4 : ∀ kd z, x4 ≠ .int kd z) (h5 : ∀ kd z, x5 ≠ .int kd z) :
    ∀ (i : Nat) x, (#[x0, x1, x2, x3, x4, x5] : Array Value)[i]? = some x → ∀ kd z, x ≠ .int kd z := by
  intro i x hi
  match i with
  | 0 => simp at hi; subst hi; exact h0
  | 1 => simp at hi; subst hi; exact h1
  | 2 => simp at hi; subst hi; exact h2
  | 3 => simp at hi; subst hi; exact h3
  | 4 => simp at hi; subst hi; exact h4
  | 5 => simp at hi; subst hi; exact h5
  | i + 6 => simp at hi
/-- Six stores into the box of the results. -/
theorem six_set {W : World} {B : Nat} {t : TypeId} (hbox : W.heap[B]? = some (.cells #[.bool false, .slice none 0 0, .bool false, .slice none 0 0, .bool false, .slice none 0 0] t (0, 0))) (v0 v1 v2 v3 v4 v5 : Value) :
    ∃ F, (((((W.setCell ⟨B, 0, none⟩ v0).setCell ⟨B, 1, none⟩ v1).setCell ⟨B, 2, none⟩ v2).setCell ⟨B, 3, none⟩ v3).setCell ⟨B, 4, none⟩ v4).setCell ⟨B, 5, none⟩ v5 = F
      ∧ F.cell? ⟨B, 0, none⟩ = some v0 ∧ F.cell? ⟨B, 1, none⟩ = some v1 ∧ F.cell? ⟨B, 2, none⟩ = some v2 ∧ F.cell? ⟨B, 3, none⟩ = some v3 ∧ F.cell? ⟨B, 4, none⟩ = some v4 ∧ F.cell? ⟨B, 5, none⟩ = some v5
      ∧ (∀ k w, k ≤ B → Below k w W → Below k w F) ∧ (∀ v n, Dg 1000000000 W v n → Dg 1000000000 F v n) := by
  have c0 := heap_box hbox 0; have c1 := heap_box hbox 1; have c2 := heap_box hbox 2; have c3 := heap_box hbox 3; have c4 := heap_box hbox 4; have c5 := heap_box hbox 5
  simp at c0 c1 c2 c3 c4 c5
  refine ⟨_, rfl, ?_, ?_, ?_, ?_, ?_, ?_, fun k w hk hb => ((((((hb.setCell hk _).setCell hk _).setCell hk _).setCell hk _).setCell hk _).setCell hk _), fun v n hd => ?_⟩
  · exact set_other _ (by simp) (set_other _ (by simp) (set_other _ (by simp) (set_other _ (by simp) (set_other _ (by simp) (set_same _ c0)))))
  · exact set_other _ (by simp) (set_other _ (by simp) (set_other _ (by simp) (set_other _ (by simp) (set_same _ (set_other _ (by simp) c1)))))
  · exact set_other _ (by simp) (set_other _ (by simp) (set_other _ (by simp) (set_same _ (set_other _ (by simp) (set_other _ (by simp) c2)))))
  · exact set_other _ (by simp) (set_other _ (by simp) (set_same _ (set_other _ (by simp) (set_other _ (by simp) (set_other _ (by simp) c3)))))
  · exact set_other _ (by simp) (set_same _ (set_other _ (by simp) (set_other _ (by simp) (set_other _ (by simp) (set_other _ (by simp) c4)))))
  · exact set_same _ (set_other _ (by simp) (set_other _ (by simp) (set_other _ (by simp) (set_other _ (by simp) (set_other _ (by simp) c5)))))
  · by_cases h0 : n = 0
    · subst h0; exact dg_any hd
    · have hne := dg_box hd h0 hbox (box_cells (by simp) (by simp) (by simp) (by simp) (by simp) (by simp))
      refine hd.same fun g hg => ?_
      have hgB : g ≠ B := fun e => hne (by rw [hg, e])
      rw [Below.heap_setCell _ _ _ _ hgB, Below.heap_setCell _ _ _ _ hgB, Below.heap_setCell _ _ _ _ hgB, Below.heap_setCell _ _ _ _ hgB, Below.heap_setCell _ _ _ _ hgB, Below.heap_setCell _ _ _ _ hgB]
theorem wh_of_dg {W F : World} {b : Bool} {A : Option Addr} {n c : Nat} {p : Value} {z : Int} (e : (Value.agg #[.bool b, .slice A n c]) = .agg #[.bool (decide (z < 0)), p]) (hd : Dg 1000000000 W p z.natAbs) (hf : ∀ v n, Dg 1000000000 W v n → Dg 1000000000 F v n) : Wh F (.agg #[.bool b, .slice A n c]) z := ⟨p, e, hf _ _ hd⟩
/-- A new whole's box. -/
structure Bx (w : World) (b : Nat) : Prop where
  c0 : w.cell? ⟨b, 0, none⟩ = some (.bool false)
  c1 : w.cell? ⟨b, 1, none⟩ = some (.slice none 0 0)
  f0 : w.frozen? ⟨b, 0, none⟩ = false
  f1 : w.frozen? ⟨b, 1, none⟩ = false
theorem Bx.keep {w w' : World} {b : Nat} (h : Bx w b) (hb : Below w.heap.size w w') : Bx w' b := ⟨keep_cell hb h.c0, keep_cell hb h.c1, keep_free' hb h.c0 h.f0, keep_free' hb h.c1 h.f1⟩
theorem Bx.lt {w : World} {b : Nat} (h : Bx w b) : b < w.heap.size := lt_of_some (a := ⟨b, 0, none⟩) (by rw [h.c0]; rfl)
theorem Bx.new (w : World) (t : TypeId) : Bx (w.alloc (.cells #[.bool false, .slice none 0 0] t)) w.heap.size :=
  have h := heap_alloc_new w (.cells #[.bool false, .slice none 0 0] t)
  ⟨cell_of_heap h 0, cell_of_heap h 1, free_of_heap h 0, free_of_heap h 1⟩
theorem st0 {V N : World} (h : Below V.heap.size V N) : Below V.heap.size V N := h
theorem st0d {V N : World} (h : Below V.drew.heap.size V.drew N) : Below V.heap.size V N := below_then' (Below.refl _ _).drew h
theorem st1 {V N : World} {t : TypeId} (h : Below (V.alloc (.cells #[.bool false, .slice none 0 0] t)).heap.size (V.alloc (.cells #[.bool false, .slice none 0 0] t)) N) : Below V.heap.size V N ∧ Bx N V.heap.size :=
  ⟨below_then' ((Below.refl _ _).alloc (Nat.le_refl _) _) h, (Bx.new V t).keep h⟩
theorem st1d {V N : World} {t : TypeId} (h : Below (V.alloc (.cells #[.bool false, .slice none 0 0] t)).drew.heap.size (V.alloc (.cells #[.bool false, .slice none 0 0] t)).drew N) : Below V.heap.size V N ∧ Bx N V.heap.size := st1 (t := t) (st0d h)
theorem st2 {V N : World} {t u : TypeId} (h : Below ((V.alloc (.cells #[.bool false, .slice none 0 0] t)).alloc (.cells #[.bool false, .slice none 0 0] u)).heap.size ((V.alloc (.cells #[.bool false, .slice none 0 0] t)).alloc (.cells #[.bool false, .slice none 0 0] u)) N) : Below V.heap.size V N ∧ Bx N V.heap.size ∧ Bx N (V.heap.size + 1) := by
  obtain ⟨h1, h2⟩ := st1 h
  obtain ⟨h3, h4⟩ := st1 h1
  rw [show (V.alloc (.cells #[.bool false, .slice none 0 0] t)).heap.size = V.heap.size + 1 by simp] at h2
  exact ⟨h3, h4, h2⟩
theorem st2d {V N : World} {t u : TypeId} (h : Below ((V.alloc (.cells #[.bool false, .slice none 0 0] t)).alloc (.cells #[.bool false, .slice none 0 0] u)).drew.heap.size ((V.alloc (.cells #[.bool false, .slice none 0 0] t)).alloc (.cells #[.bool false, .slice none 0 0] u)).drew N) : Below V.heap.size V N ∧ Bx N V.heap.size ∧ Bx N (V.heap.size + 1) := st2 (t := t) (u := u) (st0d h)
theorem bl1 {w W : World} (h : Below w.heap.size w W) (o : Obj) : Below w.heap.size w (W.alloc o) := h.alloc h.size _
theorem bl2 {w W : World} (h : Below w.heap.size w W) (o o' : Obj) : Below w.heap.size w ((W.alloc o).alloc o') := bl1 (bl1 h o) o'

set_option maxRecDepth 100000 in
set_option maxHeartbeats 1500000 in
theorem divisor_some (v1 v2 : Value) (x y : Int) (w : World) (h1 : Wh w v1 x) (h2 : Wh w v2 y) (hx : x.natAbs < 10 ^ 200) (hy : y.natAbs < 10 ^ 200) (hy0 : y ≠ 0) :
    Calls Tryz.prog 70 #[v1, v2] w (DivP x y w) := by
  obtain ⟨p, rfl, hp⟩ := h1
  obtain ⟨q, rfl, hq⟩ := h2
  have HP := Lib.hid hp
  have HQ := Lib.hid hq
  have HX := Lib.hid hx
  have HY := Lib.hid hy
  have HY0 := Lib.hid hy0
  obtain ⟨A6, n6, c6, rfl⟩ := hp.form
  obtain ⟨L, hL⟩ : ∃ L, (dg 1000000000 y.natAbs).length = L := ⟨_, rfl⟩
  have hl0 : 0 < L := by rw [← hL]; exact List.length_pos_iff.2 fun e => by have := (dg_eq_nil (by decide)).1 e; omega
  obtain ⟨A7, c7, hp7, -, -, -⟩ := hq
  rw [hL] at hp7
  subst hp7
  have hl1 : ((L : Int) == 0) = false := by simp; omega
  obtain ⟨bx, hbx⟩ : ∃ b, decide (x < 0) = b := ⟨_, rfl⟩
  obtain ⟨by_, hby⟩ : ∃ b, decide (y < 0) = b := ⟨_, rfl⟩
  rw [hbx, hby]
  have HBX := Lib.hid (And.intro hbx hby)
  obtain ⟨G, hG⟩ : ∃ G, Nat.gcd x.natAbs y.natAbs = G := ⟨_, rfl⟩
  have hG0 : 0 < G := by rw [← hG]; exact Nat.gcd_pos_of_pos_right _ (by omega)
  have hGy : G ≤ y.natAbs := by rw [← hG]; exact Nat.le_of_dvd (by omega) (Nat.gcd_dvd_right _ _)
  have HG := Lib.hid (And.intro hG (And.intro hG0 hGy))
  have HMN : Hid (((y.natAbs / G : Nat) : Int) ≠ 0) := by
    show _ ≠ _
    have := Nat.div_pos hGy hG0
    omega
  have HLY : Hid ((dg 1000000000 y.natAbs).length ≤ 1000000) := Nat.le_trans (len23 hy) (by decide)
  have HLX : Hid ((dg 1000000000 x.natAbs).length ≤ 1000000) := Nat.le_trans (len23 hx) (by decide)
  have HLG : Hid ((dg 1000000000 G).length ≤ 999999) := Nat.le_trans (len23 (by omega)) (by decide)
  obtain ⟨W, hW, hh0, hh1, hh2, hbel, hsz⟩ := boxes3h w #[.bool bx, .slice A6 n6 c6] #[.bool by_, .slice A7 L c7] #[.bool false, .slice none 0 0, .bool false, .slice none 0 0, .bool false, .slice none 0 0] 72 72 90
  have c00 := heap_box hh0 0; have c01 := heap_box hh0 1; have c10 := heap_box hh1 0; have c11 := heap_box hh1 1
  simp at c00 c01 c10 c11
  have HK2 := Lib.hid hh2
  have HBEL := Lib.hid hbel
  have HSZ : Hid (W.heap.size = w.heap.size + 3) := hsz
  have HPW : Hid (Dg 1000000000 W (.slice A6 n6 c6) x.natAbs) := HP.out.below hbel.to
  have HQW : Hid (Dg 1000000000 W (.slice A7 L c7) y.natAbs) := HQ.out.below hbel.to
  clear hp hbx hby hG hG0 hGy hx hy hy0 hL hl0 hh0 hh1 hh2 hbel hsz
  go_enter Tryz.func70, Tryz.ntmps70
  go_upto_region 7 with (first
    | (go_at_call 111; (with_reducible refine (combined_c _ _ x.natAbs y.natAbs _ HPW.out HQW.out HX.out HY.out).mono ?_); rintro e W1 ⟨u, v, x1, rfl, hu, ⟨p1, rfl, hp1⟩, hs, hxb, hbz⟩; rw [HG.out.1] at hu; obtain ⟨Ag, ng, cg, rfl⟩ := hu.form; obtain ⟨A1, n1, c1, rfl⟩ := hp1.form; obtain ⟨b1, hb1⟩ : ∃ b1, decide (x1 < 0) = b1 := ⟨_, rfl⟩; rw [hb1]; have HU := Lib.hid hu; have HP1 := Lib.hid hp1; have HX1 := Lib.hid (And.intro hs (And.intro hxb hb1)); have HB1 := Lib.hid hbz; have c00 := keep_cell hbz c00; have c01 := keep_cell hbz c01; have c10 := keep_cell hbz c10; have c11 := keep_cell hbz c11; obtain ⟨V1, hV1, kk, ff, hbv, hsv⟩ := boxes1 W1 #[.bool b1, .slice A1 n1 c1] 72; have e0 := kk 0; have e1 := kk 1; have g0 := ff 0; have g1 := ff 1; simp at e0 e1; have hbv := hbv.to; have c00 := keep_cell hbv c00; have c01 := keep_cell hbv c01; have c10 := keep_cell hbv c10; have c11 := keep_cell hbv c11; have HBV := Lib.hid hbv; clear hu hp1 hs hxb hb1 hbz kk ff hbv hsv)
    | (go_at_call 60; (with_reducible refine (made_c _ _ x1.natAbs _ (HP1.out.below HBV.out)).mono ?_); rintro e W2 ⟨rfl, hbz⟩; obtain ⟨s2, hs2⟩ : ∃ s2, ((!b1 == bx) && decide (0 < x1.natAbs)) = s2 := ⟨_, rfl⟩; rw [hs2]; have HS2 := Lib.hid hs2; have g0 := keep_free' hbz e0 g0; have g1 := keep_free' hbz e1 g1; have c00 := keep_cell hbz c00; have c01 := keep_cell hbz c01; have c10 := keep_cell hbz c10; have c11 := keep_cell hbz c11; have e0 := keep_cell hbz e0; have e1 := keep_cell hbz e1; have HB2 : Hid (Below W1.heap.size W1 W2) := below_then' HBV.out hbz; clear hs2 hbz hV1; have m0 := e0; have m1 := e1; have m2 := g0; have m3 := g1; obtain ⟨F, hF, y0, y1, hfar, hfz, hbf, hwf, hsf⟩ := two_set W2 W1.heap.size (.bool s2) (.slice A1 n1 c1) e0 e1; have hb1f : Below W1.heap.size W1 F := hbf _ _ (Nat.le_refl _) HB2.out; have c00 := hfar _ _ (by have h1 := HB1.out.size; have h2 := HSZ.out; simp; omega) c00; have c01 := hfar _ _ (by have h1 := HB1.out.size; have h2 := HSZ.out; simp; omega) c01; have c10 := hfar _ _ (by have h1 := HB1.out.size; have h2 := HSZ.out; simp; omega) c10; have c11 := hfar _ _ (by have h1 := HB1.out.size; have h2 := HSZ.out; simp; omega) c11; have g0 := (hfz ⟨W1.heap.size, 0, none⟩).trans g0; have g1 := (hfz ⟨W1.heap.size, 1, none⟩).trans g1; have HB1F := Lib.hid hb1f; clear hfar hfz hbf hwf hsf hb1f e0 e1; have e0 := y0; have e1 := y1; clear y0 y1)
    | (go_at_call 75; (with_reducible refine (over_c _ _ y.natAbs G _ ((HQW.out.below HB1.out).below HB1F.out) (HU.out.below HB1F.out) HG.out.2.1 HLY.out HLG.out).mono ?_); rintro e W3 ⟨ub, ur, rfl, hub, hur, -, -, hbz⟩; obtain ⟨Ab, nb, cb, rfl⟩ := hub.form; obtain ⟨Ar, nr, cr, rfl⟩ := hur.form; have g0 := keep_free' hbz e0 g0; have g1 := keep_free' hbz e1 g1; have c00 := keep_cell hbz c00; have c01 := keep_cell hbz c01; have c10 := keep_cell hbz c10; have c11 := keep_cell hbz c11; have e0 := keep_cell hbz e0; have e1 := keep_cell hbz e1; have HB3 : Hid (Below W1.heap.size W1 W3) := below_then' HB1F.out hbz; have HUB := Lib.hid hub; have HWX2 : Hid (Wh W3 (.agg #[.bool s2, .slice A1 n1 c1]) (if x < 0 then -x1 else x1)) := ⟨_, by rw [← flip_sign x x1 b1 bx HX1.out.2.2 HBX.out.1, HS2.out], by rw [flip_abs]; exact HP1.out.below HB3.out⟩; have HWM : Hid (Wh W3 (.agg #[.bool false, .slice Ab nb cb]) ((y.natAbs / G : Nat) : Int)) := ⟨_, by rw [decide_eq_false (Int.not_lt.2 (Int.natCast_nonneg _))], by rw [Int.natAbs_natCast]; exact hub⟩; have HLA : Hid ((dg 1000000000 (if x < 0 then -x1 else x1).natAbs).length ≤ 999999) := (by show _ ≤ _; rw [flip_abs]; exact dg_len_small (by have h1 := HX1.out.2.1; have h2 := HY.out; omega)); have HLB : Hid ((dg 1000000000 ((y.natAbs / G : Nat) : Int).natAbs).length ≤ 999999) := (by show _ ≤ _; rw [Int.natAbs_natCast]; exact dg_len_small (by have h2 := HY.out; have := Nat.div_le_self y.natAbs G; omega)); clear hub hur hbz hF m0 m1 m2 m3)
    | (go_at_call 66; (with_reducible refine (floor_c _ _ (if x < 0 then -x1 else x1) ((y.natAbs / G : Nat) : Int) _ HWX2.out HWM.out HMN.out HLA.out HLB.out).mono ?_); rintro e W4 ⟨u4, v4, rfl, hu4, hv4, hbz⟩; obtain ⟨b4, A4, n4, c4, rfl, hb4, -⟩ := hu4.form; obtain ⟨b5, A5, n5, c5, rfl, hb5, -⟩ := hv4.form; have HV4 := Lib.hid hv4; have HLT34 : Hid (W1.heap.size < W3.heap.size) := lt_of_some (a := ⟨W1.heap.size, 0, none⟩) (by rw [e0]; rfl); have g0 := keep_free' hbz e0 g0; have g1 := keep_free' hbz e1 g1; have c00 := keep_cell hbz c00; have c01 := keep_cell hbz c01; have c10 := keep_cell hbz c10; have c11 := keep_cell hbz c11; have e0 := keep_cell hbz e0; have e1 := keep_cell hbz e1; have HB4 : Hid (Below W1.heap.size W1 W4) := below_then' HB3.out hbz; clear hu4 hv4 hbz hb4 hb5; have m0 := e0; have m1 := e1; have m2 := g0; have m3 := g1; obtain ⟨F2, hF2, y0, y1, hfar, hfz, hbf, hwf, hsf⟩ := two_set W4 W1.heap.size (.bool b5) (.slice A5 n5 c5) e0 e1; have hb1f : Below W1.heap.size W1 F2 := hbf _ _ (Nat.le_refl _) HB4.out; have c00 := hfar _ _ (by have h1 := HB1.out.size; have h2 := HSZ.out; simp; omega) c00; have c01 := hfar _ _ (by have h1 := HB1.out.size; have h2 := HSZ.out; simp; omega) c01; have c10 := hfar _ _ (by have h1 := HB1.out.size; have h2 := HSZ.out; simp; omega) c10; have c11 := hfar _ _ (by have h1 := HB1.out.size; have h2 := HSZ.out; simp; omega) c11; have g0 := (hfz ⟨W1.heap.size, 0, none⟩).trans g0; have g1 := (hfz ⟨W1.heap.size, 1, none⟩).trans g1; have HB5 := Lib.hid hb1f; have HV5 := Lib.hid (hwf _ _ _ HLT34.out HV4.out); clear hfar hfz hbf hwf hsf hb1f e0 e1; have e0 := y0; have e1 := y1; clear y0 y1))
  clear m0 m1 m2 m3 hF2
  obtain ⟨X, hX⟩ : ∃ X, (if x < 0 then -x1 else x1).fmod ((y.natAbs / G : Nat) : Int) = X := ⟨_, rfl⟩
  obtain ⟨Y, hY⟩ : ∃ Y, ((G : Int) + -(X * x)).tdiv y = Y := ⟨_, rfl⟩
  have hfac : GcdP x y G X Y ∧ X.natAbs ≤ y.natAbs := by
    have hGi : Int.gcd x y = G := HG.out.1
    obtain ⟨s, hs⟩ := HX1.out.1
    rw [show Nat.gcd x.natAbs y.natAbs = G from HG.out.1] at hs
    obtain ⟨s', hs'⟩ := flip_sum (x := x) (y := y) hs
    have := gcd_factors (a := x) (b := y) HY0.out (x := if x < 0 then -x1 else x1) ⟨s', by rw [hGi]; exact hs'⟩ X Y (by rw [hGi]; exact hX.symm) (by rw [hGi]; exact hY.symm)
    rw [hGi] at this
    exact this
  have HFAC := Lib.hid hfac
  have HXE := Lib.hid hX
  have HYE := Lib.hid hY
  obtain ⟨t1, t2, t3⟩ := HV5.out.parts
  rw [hX] at t1 t3
  have HWX : Hid (∀ W', Below F2.heap.size F2 W' → Wh W' (.agg #[.bool b5, .slice A5 n5 c5]) X) := fun W' hW' => ⟨_, by rw [t3], t1.below hW'⟩
  have HBWF : Hid (Below w.heap.size w F2) := below_then' (below_then' HBEL.out.to HB1.out) HB5.out
  have HWA : Hid (∀ W', Below F2.heap.size F2 W' → Wh W' (.agg #[.bool bx, .slice A6 n6 c6]) x) := fun W' hW' => ⟨_, by rw [HBX.out.1], (HP.out.below HBWF.out).below hW'⟩
  have HWB : Hid (∀ W', Below F2.heap.size F2 W' → Wh W' (.agg #[.bool by_, .slice A7 L c7]) y) := fun W' hW' => ⟨_, by rw [HBX.out.2], (HQ.out.below HBWF.out).below hW'⟩
  have HWG : Hid (∀ W', Below F2.heap.size F2 W' → Wh W' (.agg #[.bool false, .slice Ag ng cg]) (G : Int)) := fun W' hW' => ⟨_, by rw [decide_eq_false (Int.not_lt.2 (Int.natCast_nonneg _))], by rw [Int.natAbs_natCast]; exact (HU.out.below HB5.out).below hW'⟩
  have hXy : X.natAbs < 10 ^ 200 := by have := hfac.2; have := HY.out; omega
  have HXF := Lib.hid hXy
  have HLX6 : Hid ((dg 1000000000 X.natAbs).length ≤ 1000000) := Nat.le_trans (len23 hXy) (by decide)
  have HLN : Hid ((dg 1000000000 (-(X * x)).natAbs).length ≤ 1000000) := by show _ ≤ _; rw [Int.natAbs_neg, Int.natAbs_mul]; exact Nat.le_trans (len_mul hXy HX.out) (by decide)
  have HLG1 : Hid ((dg 1000000000 (G : Int).natAbs).length ≤ 1000000) := by show _ ≤ _; rw [Int.natAbs_natCast]; exact Nat.le_trans HLG.out (by decide)
  have HLS : Hid ((dg 1000000000 ((G : Int) + -(X * x)).natAbs).length ≤ 1000000) := by
    show _ ≤ _
    have h1 : ((G : Int) + -(X * x)).natAbs ≤ X.natAbs * x.natAbs + y.natAbs := by
      refine Nat.le_trans (Int.natAbs_add_le _ _) ?_
      rw [Int.natAbs_neg, Int.natAbs_mul, Int.natAbs_natCast]; have := HG.out.2.2; omega
    exact Nat.le_trans (dg_length_mono (by decide) h1) (len_sq hXy HX.out HY.out)
  have HLY9 : Hid ((dg 1000000000 y.natAbs).length ≤ 999999) := Nat.le_trans (len23 HY.out) (by decide)
  have hbw : Bel F2.heap.size F2 F2 := Bel.refl _ _ (Nat.le_refl _)
  have hlt1 : W1.heap.size < F2.heap.size := lt_of_some (a := ⟨W1.heap.size, 0, none⟩) (by rw [e0]; rfl)
  have hlt2 : w.heap.size + 1 < F2.heap.size := lt_of_some (a := ⟨w.heap.size + 1, 0, none⟩) (by rw [c10]; rfl)
  have hlt3 : w.heap.size < F2.heap.size := by omega
  clear t1 t2 t3 hX hY hfac hXy
  go_cut [9, 10] from 59 to 69 (fun p9 p10 wx => ∃ (b9 : Nat) (AY : Option Addr) (nY cY : Nat), p9 = .pointer (some ⟨b9, 0, none⟩) ∧ wx.cell? ⟨b9, 0, none⟩ = some (.bool (decide (Y < 0))) ∧ wx.cell? ⟨b9, 1, none⟩ = some (.slice AY nY cY) ∧ Hid (Dg 1000000000 wx (.slice AY nY cY) Y.natAbs ∧ Below F2.heap.size F2 wx))
  case first =>
    have HE := Lib.hid (And.intro (And.intro e0 e1) (And.intro (And.intro c00 c01) (And.intro c10 c11)))
    clear e0 e1 c00 c01 c10 c11 g0 g1 hbw hl1 hlt1 hlt2 hlt3 hW hbv
    refine wp_region_at [59, 60, 61, 62, 63, 64, 65, 66, 67, 58, 68, 69, 9, 10] (Iv F2 (.slice Ag ng cg) (.agg #[.bool b5, .slice A5 n5 c5]) (.agg #[.bool bx, .slice A6 n6 c6]) (.agg #[.bool by_, .slice A7 L c7]) (X * x) ((G : Int) + -(X * x)) Y (((G : Int) + -(X * x)).tmod y)) 16 rfl (by kernel_rfl) (by kernel_rfl) ?_ ?_ ⟨?_, ?_, ?_, ?_, ?_, ?_, ?_, ?_, ?_, ?_, ?_, ?_, ?_, ?_, ?_, ?_, trivial⟩
    · intro us
      exact ⟨(Below.refl _ _).drew, fun j hj h => (none_listed h).elim, fun h => (none_listed h).elim, fun h => (none_listed h).elim⟩
    · intro l us wx hl hJ
      obtain ⟨-, g, p, hg, c0, c1, hd⟩ := hJ.st (hl 14 (by decide))
      have hb := hJ.below
      obtain ⟨Ap, np, cp, rfl⟩ := hd.form
      have HH := Lib.hid (And.intro hd hb)
      clear hl hJ hd hb
      simp only [At, List.foldl_cons, List.foldl_nil, List.setIfInBounds_toArray, List.set_cons_zero, List.set_cons_succ]
      go_wp2_with fail
      go_meet
      exact ⟨g, Ap, np, cp, hg, c0, c1, HH.out⟩
    · refine opAt rfl ?_
      intro l us wx hJ hp hl K hK
      have HJ := Lib.hid hJ
      have HP := Lib.hid hp
      have HL := Lib.hid hl
      have HK := Lib.hid hK
      have HBX' := Lib.hid hJ.below
      clear hJ hp hl hK
      have HK := HK.out
      simp only [At, List.foldl_cons, List.foldl_nil, List.setIfInBounds_toArray, List.set_cons_zero, List.set_cons_succ] at HK
      have HK := Lib.hid HK
      simp only [At, List.foldl_cons, List.foldl_nil, List.setIfInBounds_toArray, List.set_cons_zero, List.set_cons_succ]
      refine ⟨?_⟩
      go_simp
      exact HK.out (upd us 59 (.slice Ag ng cg)) wx (by exact HJ.out.val 0 (by decide) HL.out (Below.refl _ _) _ (upd_same _ _ _) (fun h => by omega))
    · refine opAt rfl ?_
      intro l us wx hJ hp hl K hK
      have HJ := Lib.hid hJ
      have HP := Lib.hid hp
      have HL := Lib.hid hl
      have HK := Lib.hid hK
      have HBX' := Lib.hid hJ.below
      clear hJ hp hl hK
      have HK := HK.out
      simp only [At, List.foldl_cons, List.foldl_nil, List.setIfInBounds_toArray, List.set_cons_zero, List.set_cons_succ] at HK
      have HK := Lib.hid HK
      have h59 := HJ.out.ph 0 (by decide) (HP.out 0 (by kernel_rfl))
      simp only [Ph] at h59
      simp only [At, List.foldl_cons, List.foldl_nil, List.setIfInBounds_toArray, List.set_cons_zero, List.set_cons_succ]
      refine ⟨?_⟩
      go_simp
      exact HK.out (upd (upd us 59 (.slice Ag ng cg)) 60 (.agg #[.bool false, .slice Ag ng cg])) wx (by rw [upd_self h59]; exact HJ.out.val 1 (by decide) HL.out (Below.refl _ _) _ (upd_same _ _ _) (fun h => by omega))
    · refine opAt rfl ?_
      intro l us wx hJ hp hl K hK
      have HJ := Lib.hid hJ
      have HP := Lib.hid hp
      have HL := Lib.hid hl
      have HK := Lib.hid hK
      have HBX' := Lib.hid hJ.below
      clear hJ hp hl hK
      have HK := HK.out
      simp only [At, List.foldl_cons, List.foldl_nil, List.setIfInBounds_toArray, List.set_cons_zero, List.set_cons_succ] at HK
      have HK := Lib.hid HK
      have k0 := keep_cell HBX'.out HE.out.1.1
      have k1 := keep_cell HBX'.out HE.out.1.2
      simp only [At, List.foldl_cons, List.foldl_nil, List.setIfInBounds_toArray, List.set_cons_zero, List.set_cons_succ]
      refine ⟨?_⟩
      go_simp
      exact HK.out (upd us 61 (.agg #[.bool b5, .slice A5 n5 c5])) wx (by exact HJ.out.val 2 (by decide) HL.out (Below.refl _ _) _ (upd_same _ _ _) (fun h => by omega))
    · refine opAt rfl ?_
      intro l us wx hJ hp hl K hK
      have HJ := Lib.hid hJ
      have HP := Lib.hid hp
      have HL := Lib.hid hl
      have HK := Lib.hid hK
      have HBX' := Lib.hid hJ.below
      clear hJ hp hl hK
      have HK := HK.out
      simp only [At, List.foldl_cons, List.foldl_nil, List.setIfInBounds_toArray, List.set_cons_zero, List.set_cons_succ] at HK
      have HK := Lib.hid HK
      have k0 := keep_cell HBX'.out HE.out.2.1.1
      have k1 := keep_cell HBX'.out HE.out.2.1.2
      simp only [At, List.foldl_cons, List.foldl_nil, List.setIfInBounds_toArray, List.set_cons_zero, List.set_cons_succ]
      refine ⟨?_⟩
      go_simp
      exact HK.out (upd us 62 (.agg #[.bool bx, .slice A6 n6 c6])) wx (by exact HJ.out.val 3 (by decide) HL.out (Below.refl _ _) _ (upd_same _ _ _) (fun h => by omega))
    · refine opAt rfl ?_
      intro l us wx hJ hp hl K hK
      have HJ := Lib.hid hJ
      have HP := Lib.hid hp
      have HL := Lib.hid hl
      have HK := Lib.hid hK
      have HBX' := Lib.hid hJ.below
      clear hJ hp hl hK
      have HK := HK.out
      simp only [At, List.foldl_cons, List.foldl_nil, List.setIfInBounds_toArray, List.set_cons_zero, List.set_cons_succ] at HK
      have HK := Lib.hid HK
      have h61 := HJ.out.ph 2 (by decide) (HP.out 2 (by kernel_rfl))
      simp only [Ph] at h61
      have h62 := HJ.out.ph 3 (by decide) (HP.out 3 (by kernel_rfl))
      simp only [Ph] at h62
      simp only [At, List.foldl_cons, List.foldl_nil, List.setIfInBounds_toArray, List.set_cons_zero, List.set_cons_succ]
      refine ⟨?_⟩
      go_simp
      go_wp2_with (go_at_call 57; (with_reducible refine (mulN_c _ _ X x _ (HWX.out _ HBX'.out) (HWA.out _ HBX'.out) HLX6.out HLX.out).mono ?_); rintro e W6 ⟨u, rfl, hu, hbz⟩; have HU6 := Lib.hid hu; have HB6 := Lib.hid hbz; clear hu hbz)
      exact HK.out (upd (upd (upd us 61 (.agg #[.bool b5, .slice A5 n5 c5])) 62 (.agg #[.bool bx, .slice A6 n6 c6])) 63 u) W6 (by rw [upd_self h61, upd_self h62]; exact HJ.out.val 4 (by decide) HL.out HB6.out _ (by show Wh W6 (upd us 63 u 63) _; rw [upd_same]; exact HU6.out.wh) (fun h => by omega))
    · refine opAt rfl ?_
      intro l us wx hJ hp hl K hK
      have HJ := Lib.hid hJ
      have HP := Lib.hid hp
      have HL := Lib.hid hl
      have HK := Lib.hid hK
      have HBX' := Lib.hid hJ.below
      clear hJ hp hl hK
      have HK := HK.out
      simp only [At, List.foldl_cons, List.foldl_nil, List.setIfInBounds_toArray, List.set_cons_zero, List.set_cons_succ] at HK
      have HK := Lib.hid HK
      have h63 := HJ.out.ph 4 (by decide) (HP.out 4 (by kernel_rfl))
      simp only [Ph] at h63
      have H63 := Lib.hid h63
      clear h63
      simp only [At, List.foldl_cons, List.foldl_nil, List.setIfInBounds_toArray, List.set_cons_zero, List.set_cons_succ]
      refine ⟨?_⟩
      go_simp
      go_wp2_with (go_at_call 94; (with_reducible refine (negN_c 0 _ (X * x) _ H63.out.zero).mono ?_); rintro e W6 ⟨u, rfl, hu, hbz⟩; have HU6 := Lib.hid hu; have HB6 := Lib.hid hbz; clear hu hbz)
      exact HK.out (upd us 64 u) W6 (by exact HJ.out.val 5 (by decide) HL.out HB6.out _ (by show Wh W6 (upd us 64 u 64) _; rw [upd_same]; exact HU6.out.wh) (fun h => by omega))
    · refine opAt rfl ?_
      intro l us wx hJ hp hl K hK
      have HJ := Lib.hid hJ
      have HP := Lib.hid hp
      have HL := Lib.hid hl
      have HK := Lib.hid hK
      have HBX' := Lib.hid hJ.below
      clear hJ hp hl hK
      have HK := HK.out
      simp only [At, List.foldl_cons, List.foldl_nil, List.setIfInBounds_toArray, List.set_cons_zero, List.set_cons_succ] at HK
      have HK := Lib.hid HK
      have h60 := HJ.out.ph 1 (by decide) (HP.out 1 (by kernel_rfl))
      simp only [Ph] at h60
      have h64 := HJ.out.ph 5 (by decide) (HP.out 5 (by kernel_rfl))
      simp only [Ph] at h64
      have H64 := Lib.hid h64
      clear h64
      simp only [At, List.foldl_cons, List.foldl_nil, List.setIfInBounds_toArray, List.set_cons_zero, List.set_cons_succ]
      refine ⟨?_⟩
      go_simp
      go_wp2_with (go_at_call 92; (with_reducible refine (add_c _ _ (G : Int) (-(X * x)) _ (HWG.out _ HBX'.out) H64.out HLG1.out HLN.out).mono ?_); rintro e W6 ⟨u, rfl, hu, hbz⟩; have HU6 := Lib.hid hu; have HB6 := Lib.hid hbz; clear hu hbz)
      exact HK.out (upd (upd us 60 (.agg #[.bool false, .slice Ag ng cg])) 65 u) W6 (by rw [upd_self h60]; exact HJ.out.val 6 (by decide) HL.out HB6.out _ (by show Wh W6 (upd us 65 u 65) _; rw [upd_same]; exact HU6.out.wh) (fun h => by omega))
    · refine opAt rfl ?_
      intro l us wx hJ hp hl K hK
      have HJ := Lib.hid hJ
      have HP := Lib.hid hp
      have HL := Lib.hid hl
      have HK := Lib.hid hK
      have HBX' := Lib.hid hJ.below
      clear hJ hp hl hK
      have HK := HK.out
      simp only [At, List.foldl_cons, List.foldl_nil, List.setIfInBounds_toArray, List.set_cons_zero, List.set_cons_succ] at HK
      have HK := Lib.hid HK
      have k0 := keep_cell HBX'.out HE.out.2.2.1
      have k1 := keep_cell HBX'.out HE.out.2.2.2
      simp only [At, List.foldl_cons, List.foldl_nil, List.setIfInBounds_toArray, List.set_cons_zero, List.set_cons_succ]
      refine ⟨?_⟩
      go_simp
      exact HK.out (upd us 66 (.agg #[.bool by_, .slice A7 L c7])) wx (by exact HJ.out.val 7 (by decide) HL.out (Below.refl _ _) _ (upd_same _ _ _) (fun h => by omega))
    · refine opAt rfl ?_
      intro l us wx hJ hp hl K hK
      have HJ := Lib.hid hJ
      have HP := Lib.hid hp
      have HL := Lib.hid hl
      have HK := Lib.hid hK
      have HBX' := Lib.hid hJ.below
      clear hJ hp hl hK
      have HK := HK.out
      simp only [At, List.foldl_cons, List.foldl_nil, List.setIfInBounds_toArray, List.set_cons_zero, List.set_cons_succ] at HK
      have HK := Lib.hid HK
      have h65 := HJ.out.ph 6 (by decide) (HP.out 6 (by kernel_rfl))
      simp only [Ph] at h65
      have H65 := Lib.hid h65
      clear h65
      have h66 := HJ.out.ph 7 (by decide) (HP.out 7 (by kernel_rfl))
      simp only [Ph] at h66
      simp only [At, List.foldl_cons, List.foldl_nil, List.setIfInBounds_toArray, List.set_cons_zero, List.set_cons_succ]
      refine ⟨?_⟩
      go_simp
      go_wp2_with (go_at_call 65; (with_reducible refine (quo_c _ _ ((G : Int) + -(X * x)) y _ H65.out (HWB.out _ HBX'.out) HY0.out HLS.out HLY9.out).mono ?_); rintro e W6 ⟨u, v, rfl, hu, hv, hbz⟩; rw [HYE.out] at hu; have HU6 := Lib.hid hu; have HV6 := Lib.hid hv; have HB6 := Lib.hid hbz; clear hu hv hbz)
      exact HK.out (upd (upd us 66 (.agg #[.bool by_, .slice A7 L c7])) 67 (.tuple #[u, v])) W6 (by rw [upd_self h66]; exact HJ.out.val 8 (by decide) HL.out HB6.out _ ⟨u, v, upd_same _ _ _, HU6.out.wh, HV6.out.wh⟩ (fun h => by omega))
    · refine opAt rfl ?_
      intro l us wx hJ hp hl K hK
      have HJ := Lib.hid hJ
      have HP := Lib.hid hp
      have HL := Lib.hid hl
      have HK := Lib.hid hK
      have HBX' := Lib.hid hJ.below
      clear hJ hp hl hK
      have HK := HK.out
      simp only [At, List.foldl_cons, List.foldl_nil, List.setIfInBounds_toArray, List.set_cons_zero, List.set_cons_succ] at HK
      have HK := Lib.hid HK
      have h67 := HJ.out.ph 8 (by decide) (HP.out 8 (by kernel_rfl))
      simp only [Ph] at h67
      obtain ⟨u, v, h67, hu, hv⟩ := h67
      have HU6 := Lib.hid hu
      have HV6 := Lib.hid hv
      clear hu hv
      simp only [At, List.foldl_cons, List.foldl_nil, List.setIfInBounds_toArray, List.set_cons_zero, List.set_cons_succ]
      refine ⟨?_⟩
      go_simp
      exact HK.out (upd (upd us 67 (.tuple #[u, v])) 58 (.tuple #[u, v])) wx (by rw [upd_self h67]; exact HJ.out.val 9 (by decide) HL.out (Below.refl _ _) _ ⟨u, v, upd_same _ _ _, HU6.out, HV6.out⟩ (fun h => by omega))
    · refine opAt rfl ?_
      intro l us wx hJ hp hl K hK
      have HJ := Lib.hid hJ
      have HP := Lib.hid hp
      have HL := Lib.hid hl
      have HK := Lib.hid hK
      have HBX' := Lib.hid hJ.below
      clear hJ hp hl hK
      have HK := HK.out
      simp only [At, List.foldl_cons, List.foldl_nil, List.setIfInBounds_toArray, List.set_cons_zero, List.set_cons_succ] at HK
      have HK := Lib.hid HK
      have h58 := HJ.out.ph 9 (by decide) (HP.out 9 (by kernel_rfl))
      simp only [Ph] at h58
      obtain ⟨bu, Au, nu, cu, bv, Av, nv, cv, h58, hu, hv⟩ := tup_form h58
      have HU6 := Lib.hid hu
      have HV6 := Lib.hid hv
      clear hu hv
      simp only [At, List.foldl_cons, List.foldl_nil, List.setIfInBounds_toArray, List.set_cons_zero, List.set_cons_succ]
      refine ⟨?_⟩
      go_simp
      exact HK.out (upd (upd us 58 (.tuple #[(.agg #[.bool bu, .slice Au nu cu]), (.agg #[.bool bv, .slice Av nv cv])])) 68 (.agg #[.bool bu, .slice Au nu cu])) wx (by rw [upd_self h58]; exact HJ.out.val 10 (by decide) HL.out (Below.refl _ _) _ (by show Wh wx (upd us 68 _ 68) _; rw [upd_same]; exact ⟨_, by rw [HU6.out.1], HU6.out.2⟩) (fun h => by omega))
    · refine opAt rfl ?_
      intro l us wx hJ hp hl K hK
      have HJ := Lib.hid hJ
      have HP := Lib.hid hp
      have HL := Lib.hid hl
      have HK := Lib.hid hK
      have HBX' := Lib.hid hJ.below
      clear hJ hp hl hK
      have HK := HK.out
      simp only [At, List.foldl_cons, List.foldl_nil, List.setIfInBounds_toArray, List.set_cons_zero, List.set_cons_succ] at HK
      have HK := Lib.hid HK
      have h58 := HJ.out.ph 9 (by decide) (HP.out 9 (by kernel_rfl))
      simp only [Ph] at h58
      obtain ⟨bu, Au, nu, cu, bv, Av, nv, cv, h58, hu, hv⟩ := tup_form h58
      have HU6 := Lib.hid hu
      have HV6 := Lib.hid hv
      clear hu hv
      simp only [At, List.foldl_cons, List.foldl_nil, List.setIfInBounds_toArray, List.set_cons_zero, List.set_cons_succ]
      refine ⟨?_⟩
      go_simp
      exact HK.out (upd (upd us 58 (.tuple #[(.agg #[.bool bu, .slice Au nu cu]), (.agg #[.bool bv, .slice Av nv cv])])) 69 (.agg #[.bool bv, .slice Av nv cv])) wx (by rw [upd_self h58]; exact HJ.out.val 11 (by decide) HL.out (Below.refl _ _) _ (by show Wh wx (upd us 69 _ 69) _; rw [upd_same]; exact ⟨_, by rw [HV6.out.1], HV6.out.2⟩) (fun h => by omega))
    · refine opAt rfl ?_
      intro l us wx hJ hp hl K hK
      have HJ := Lib.hid hJ
      have HP := Lib.hid hp
      have HL := Lib.hid hl
      have HK := Lib.hid hK
      have HBX' := Lib.hid hJ.below
      clear hJ hp hl hK
      have HK := HK.out
      simp only [At, List.foldl_cons, List.foldl_nil, List.setIfInBounds_toArray, List.set_cons_zero, List.set_cons_succ] at HK
      have HK := Lib.hid HK
      simp only [At, List.foldl_cons, List.foldl_nil, List.setIfInBounds_toArray, List.set_cons_zero, List.set_cons_succ]
      refine ⟨?_⟩
      go_simp
      exact HK.out (upd us 9 (.pointer (some ⟨wx.heap.size, 0, none⟩))) _ (by exact HJ.out.val 12 (by decide) HL.out ((Below.refl _ _).alloc (Nat.le_refl _) _) _ ⟨_, upd_same _ _ _, HBX'.out.size, _, _, _, heap_alloc_new _ _, ni_bool _, ni_slice _ _ _⟩ (fun _ => ⟨_, rfl, Nat.le_refl _⟩))
    · refine opAt rfl ?_
      intro l us wx hJ hp hl K hK
      have HJ := Lib.hid hJ
      have HP := Lib.hid hp
      have HL := Lib.hid hl
      have HK := Lib.hid hK
      have HBX' := Lib.hid hJ.below
      clear hJ hp hl hK
      have HK := HK.out
      simp only [At, List.foldl_cons, List.foldl_nil, List.setIfInBounds_toArray, List.set_cons_zero, List.set_cons_succ] at HK
      have HK := Lib.hid HK
      simp only [At, List.foldl_cons, List.foldl_nil, List.setIfInBounds_toArray, List.set_cons_zero, List.set_cons_succ]
      refine ⟨?_⟩
      go_simp
      exact HK.out (upd us 10 (.pointer (some ⟨wx.heap.size, 0, none⟩))) _ (by exact HJ.out.val 13 (by decide) HL.out ((Below.refl _ _).alloc (Nat.le_refl _) _) _ ⟨_, upd_same _ _ _, HBX'.out.size, _, _, _, heap_alloc_new _ _, ni_bool _, ni_slice _ _ _⟩ (fun _ => ⟨_, rfl, Nat.le_refl _⟩))
    · refine opAt rfl ?_
      intro l us wx hJ hp hl K hK
      have HJ := Lib.hid hJ
      have HP := Lib.hid hp
      have HL := Lib.hid hl
      have HK := Lib.hid hK
      have HBX' := Lib.hid hJ.below
      clear hJ hp hl hK
      have HK := HK.out
      simp only [At, List.foldl_cons, List.foldl_nil, List.setIfInBounds_toArray, List.set_cons_zero, List.set_cons_succ] at HK
      have HK := Lib.hid HK
      have h9 := HJ.out.ph 12 (by decide) (HP.out 12 (by kernel_rfl))
      simp only [Ph] at h9
      obtain ⟨g, hg, hgF, hbx⟩ := h9
      have h68 := HJ.out.ph 10 (by decide) (HP.out 10 (by kernel_rfl))
      simp only [Ph] at h68
      obtain ⟨bu, Ap, np, cp, h68, hbu, hd⟩ := wh_form h68
      have HBU := Lib.hid hbu
      clear hbu
      have q0 := hbx.free 0
      have q1 := hbx.free 1
      obtain ⟨z0, z1, k0, k1⟩ := hbx.cells
      have HGF := Lib.hid (And.intro hgF (And.intro hbx hd))
      clear hgF hbx hd
      simp only [At, List.foldl_cons, List.foldl_nil, List.setIfInBounds_toArray, List.set_cons_zero, List.set_cons_succ]
      refine ⟨?_⟩
      go_simp
      obtain ⟨F3, hF3, c0, c1, hbx, hbf, hdf, hfar⟩ := two_store HGF.out.2.1 (ni_bool _) (ni_slice Ap np cp)
      rw [hF3]
      have hd := HGF.out.2.2
      have hgF := HGF.out.1
      exact HK.out (upd (upd us 9 (.pointer (some ⟨g, 0, none⟩))) 68 (.agg #[.bool bu, .slice Ap np cp])) F3 (by rw [upd_self hg, upd_self h68]; exact HJ.out.st9 (HP.out 12 (by kernel_rfl)) hg hgF (by rw [HBU.out]; exact c0) c1 hd hbx hbf hdf hfar)
    · refine opAt rfl ?_
      intro l us wx hJ hp hl K hK
      have HJ := Lib.hid hJ
      have HP := Lib.hid hp
      have HL := Lib.hid hl
      have HK := Lib.hid hK
      have HBX' := Lib.hid hJ.below
      clear hJ hp hl hK
      have HK := HK.out
      simp only [At, List.foldl_cons, List.foldl_nil, List.setIfInBounds_toArray, List.set_cons_zero, List.set_cons_succ] at HK
      have HK := Lib.hid HK
      have h10 := HJ.out.ph 13 (by decide) (HP.out 13 (by kernel_rfl))
      simp only [Ph] at h10
      obtain ⟨g, hg, hgF, hbx⟩ := h10
      have h69 := HJ.out.ph 11 (by decide) (HP.out 11 (by kernel_rfl))
      simp only [Ph] at h69
      obtain ⟨bu, Ap, np, cp, h69, hbu, hd⟩ := wh_form h69
      have HBU := Lib.hid hbu
      clear hbu
      have q0 := hbx.free 0
      have q1 := hbx.free 1
      obtain ⟨z0, z1, k0, k1⟩ := hbx.cells
      have HGF := Lib.hid (And.intro hgF (And.intro hbx hd))
      clear hgF hbx hd
      simp only [At, List.foldl_cons, List.foldl_nil, List.setIfInBounds_toArray, List.set_cons_zero, List.set_cons_succ]
      refine ⟨?_⟩
      go_simp
      obtain ⟨F3, hF3, c0, c1, hbx, hbf, hdf, hfar⟩ := two_store HGF.out.2.1 (ni_bool _) (ni_slice Ap np cp)
      rw [hF3]
      have hd := HGF.out.2.2
      have hgF := HGF.out.1
      exact HK.out (upd (upd us 10 (.pointer (some ⟨g, 0, none⟩))) 69 (.agg #[.bool bu, .slice Ap np cp])) F3 (by rw [upd_self hg, upd_self h69]; exact HJ.out.st10 (HP.out 13 (by kernel_rfl)) hg hgF hbx hbf hdf hfar)
  case rest =>
    obtain ⟨b9, AY, nY, cY, rfl, d0, d1, HH⟩ := hcut
    have f0 := keep_cell HH.out.2 e0
    have f1 := keep_cell HH.out.2 e1
    have HBR : Hid (Below W.heap.size W wc) := (HB1.out.trans (HB5.out.mono HB1.out.size)).trans (HH.out.2.mono (Nat.le_trans HB1.out.size HB5.out.size))
    have hbox := heap_below HK2.out HBR.out
    have HBOX := Lib.hid hbox
    have z0 := heap_box hbox 0; have z1 := heap_box hbox 1; have z2 := heap_box hbox 2; have z3 := heap_box hbox 3; have z4 := heap_box hbox 4; have z5 := heap_box hbox 5
    have y0 := free_of_heap hbox 0; have y1 := free_of_heap hbox 1; have y2 := free_of_heap hbox 2; have y3 := free_of_heap hbox 3; have y4 := free_of_heap hbox 4; have y5 := free_of_heap hbox 5
    simp at z0 z1 z2 z3 z4 z5
    clear hbox e0 e1 c00 c01 c10 c11 g0 g1 hbw hl1 hlt1 hlt2 hlt3
    go_wp2
    obtain ⟨F, hF, r0, r1, r2, r3, r4, r5, hbf, hdf⟩ := six_set HBOX.out (.bool false) (.slice Ag ng cg) (.bool b5) (.slice A5 n5 c5) (.bool (decide (Y < 0))) (.slice AY nY cY)
    rw [hF]
    refine bodyPost_ret (v := .agg #[.bool false, .slice Ag ng cg, .bool b5, .slice A5 n5 c5, .bool (decide (Y < 0)), .slice AY nY cY]) (by simp [results, Tryz.results70, go_sem, r0, r1, r2, r3, r4, r5]) rfl ?_
    have hbw : Below w.heap.size w F := hbf _ _ (by omega) (below_then' HBEL.out.to HBR.out)
    obtain ⟨p1, e1, hd1⟩ := HWG.out wc HH.out.2
    obtain ⟨p2, e2, hd2⟩ := HWX.out wc HH.out.2
    have hy9 := HFAC.out.1.size
    have hYb : Y.natAbs < 10 ^ 200 := by rcases hy9 with h | h; exact Nat.lt_of_le_of_lt h HX.out; exact Nat.lt_of_le_of_lt h (by decide)
    exact ⟨_, _, _, _, _, _, G, X, Y, rfl, wh_of_dg e1 hd1 hdf, wh_of_dg e2 hd2 hdf, ⟨_, rfl, hdf _ _ HH.out.1⟩, HFAC.out.1, by rw [Int.natAbs_natCast]; have h1 := HG.out.2.2; have h2 := HY.out; omega, HXF.out, hYb, hbw⟩

end Go.Proofs.YtbjgpbdkofadiaaGreatDoor
