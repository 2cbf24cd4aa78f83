/- Gcd's closure. -/
import Derived.Test.YtbjgpbdkofadiaaGreatDoorDivisor
import Derived.Test.YtbjgpbdkofadiaaGreatDoorWith3
import Derived.Test.YtbjgpbdkofadiaaGreatDoorRootF
namespace Go.Proofs.YtbjgpbdkofadiaaGreatDoor
set_option linter.unusedVariables false
set_option linter.unusedSimpArgs false
open Go.RowKit Go.Shelf Go.Proofs

/-- The factors are unique. -/
theorem GcdP.unique {a b g X Y g' X' Y' : Int} (h : GcdP a b g X Y) (h' : GcdP a b g' X' Y') : g = g' ∧ X = X' ∧ Y = Y' := by
  have hg : g = g' := h.g_.trans h'.g_.symm
  refine ⟨hg, ?_⟩
  by_cases hb : b = 0
  · obtain ⟨h1, h2⟩ := h.none hb
    obtain ⟨h3, h4⟩ := h'.none hb
    exact ⟨h1.trans h3.symm, h2.trans h4.symm⟩
  · have l1 := h.low hb
    have l2 := h'.low hb
    have u1 := h.high hb
    have u2 := h'.high hb
    have s1 := h.sum
    have s2 := h'.sum
    obtain ⟨hM, hMG⟩ := gcd_quo (a := a) hb
    generalize hG : Int.gcd a b = G at *
    generalize hMM : b.natAbs / G = M at *
    have hG0 : 0 < G := by
      rcases Nat.eq_zero_or_pos G with k | k
      · rw [k] at hMG; omega
      · exact k
    -- a = G a', b = G b', a' and b' without common factor
    have hco : Nat.Coprime (a.natAbs / G) M := by
      have := Nat.coprime_div_gcd_div_gcd (m := a.natAbs) (n := b.natAbs) (show 0 < Nat.gcd a.natAbs b.natAbs by rw [show Nat.gcd a.natAbs b.natAbs = G from hG]; exact hG0)
      rw [show Nat.gcd a.natAbs b.natAbs = G from hG, hMM] at this
      exact this
    have hdv : G ∣ a.natAbs := by rw [← hG]; exact Nat.gcd_dvd_left _ _
    have haG : a.natAbs / G * G = a.natAbs := Nat.div_mul_cancel hdv
    have hd : (X - X') * a = (Y' - Y) * b := by
      have : X * a + Y * b = X' * a + Y' * b := by rw [s1, s2, hg]
      rw [Int.sub_mul, Int.sub_mul]; omega
    have hn : (X - X').natAbs * (a.natAbs / G) = (Y' - Y).natAbs * M := by
      have h1 := congrArg Int.natAbs hd
      rw [Int.natAbs_mul, Int.natAbs_mul, ← haG, ← hMG, ← Nat.mul_assoc, ← Nat.mul_assoc] at h1
      exact Nat.eq_of_mul_eq_mul_right hG0 h1
    have hdiv : M ∣ (X - X').natAbs := by
      refine (Nat.Coprime.symm hco).dvd_of_dvd_mul_right (k := M) ?_
      rw [hn]; exact Nat.dvd_mul_left _ _
    have hX : X = X' := by
      have : (X - X').natAbs < M := by omega
      have := Nat.eq_zero_of_dvd_of_lt hdiv this
      omega
    refine ⟨hX, ?_⟩
    subst hX
    have : (Y' - Y) * b = 0 := by rw [← hd]; simp
    rcases Int.mul_eq_zero.1 this with k | k
    · omega
    · exact absurd k hb

theorem wh_slice {w : World} {b : Bool} {p : Value} {z : Int} (h : Wh w (.agg #[.bool b, p]) z) : ∃ A n c, p = .slice A n c := by
  obtain ⟨p', e, hd⟩ := h
  obtain ⟨A, n, c, rfl⟩ := hd.form
  simp at e
  exact ⟨A, n, c, e.2⟩
theorem nbw (w : World) (cs : Array Value) (t : TypeId) (i : Nat) (v : Value) (h : cs[i]? = some v) : (w.alloc (.cells cs t)).drew.cell? ⟨w.heap.size, i, none⟩ = some v := (new_cell w cs t i).trans h
theorem nbf (w : World) (cs : Array Value) (t : TypeId) (i : Nat) : (w.alloc (.cells cs t)).drew.frozen? ⟨w.heap.size, i, none⟩ = false := new_free w cs t i
theorem nbh (w : World) (o : Obj) : (w.alloc o).drew.heap[w.heap.size]? = some o := heap_alloc_new w o
theorem six_new (W : World) (v0 v1 v2 v3 v4 v5 : Value) (t : TypeId) :
    ∃ F, W.alloc (.cells #[v0, v1, v2, v3, v4, v5] t) = F ∧ F.cell? ⟨W.heap.size, 0, none⟩ = some v0 ∧ F.cell? ⟨W.heap.size, 1, none⟩ = some v1 ∧ F.cell? ⟨W.heap.size, 2, none⟩ = some v2 ∧ F.cell? ⟨W.heap.size, 3, none⟩ = some v3 ∧ F.cell? ⟨W.heap.size, 4, none⟩ = some v4 ∧ F.cell? ⟨W.heap.size, 5, none⟩ = some v5
      ∧ (∀ k w, k ≤ W.heap.size → Below k w W → Below k w F) ∧ (∀ v n, Dg 1000000000 W v n → Dg 1000000000 F v n) := by
  have h := fun i => cell_of_heap (heap_alloc_new W (.cells #[v0, v1, v2, v3, v4, v5] t)) i
  exact ⟨_, rfl, h 0, h 1, h 2, h 3, h 4, h 5, fun k w hk hb => hb.alloc hk _, fun v n hd => hd.below ((Below.refl _ _).alloc (Nat.le_refl _) _)⟩
theorem three_set {W : World} {B : Nat} {u0 u1 u2 : Value} (h0 : W.cell? ⟨B, 0, none⟩ = some u0) (h1 : W.cell? ⟨B, 1, none⟩ = some u1) (h2 : W.cell? ⟨B, 2, none⟩ = some u2) (v0 v1 v2 : Value) :
    ∃ F, ((W.setCell ⟨B, 0, none⟩ v0).setCell ⟨B, 1, none⟩ v1).setCell ⟨B, 2, none⟩ v2 = F ∧ F.cell? ⟨B, 0, none⟩ = some v0 ∧ F.cell? ⟨B, 1, none⟩ = some v1 ∧ F.cell? ⟨B, 2, none⟩ = some v2 ∧ (∀ k w, k ≤ B → Below k w W → Below k w F) :=
  ⟨_, rfl, set_other (a := ⟨B, 2, none⟩) v2 (by simp) (set_other (a := ⟨B, 1, none⟩) v1 (by simp) (set_same v0 h0)), set_other (a := ⟨B, 2, none⟩) v2 (by simp) (set_same v1 (set_other (a := ⟨B, 0, none⟩) v0 (by simp) h1)),
    set_same v2 (set_other (a := ⟨B, 1, none⟩) v1 (by simp) (set_other (a := ⟨B, 0, none⟩) v0 (by simp) h2)), fun k w hk hb => ((hb.setCell hk _).setCell hk _).setCell hk _⟩
theorem wh_of {W F : World} {v : Value} {z : Int} (h : Wh W v z) (hf : ∀ v n, Dg 1000000000 W v n → Dg 1000000000 F v n) : Wh F v z := by
  obtain ⟨p, e, hd⟩ := h
  exact ⟨p, e, hf _ _ hd⟩
def gtx (z : Int) : ByteArray := ⟨(Lib.itoa z).toArray⟩
open Classical in
/-- What Gcd makes. -/
noncomputable def gcdOut (x y : Int) : Out := if h : ∃ r : Int × Int × Int, GcdP x y r.1 r.2.1 r.2.2 then .ok (.agg #[.string (gtx h.choose.1), .string (gtx h.choose.2.1), .string (gtx h.choose.2.2)]) else .err 0
theorem gcdOut_eq {x y G X Y : Int} (h : GcdP x y G X Y) : gcdOut x y = .ok (.agg #[.string (gtx G), .string (gtx X), .string (gtx Y)]) := by
  unfold gcdOut
  have h' : ∃ r : Int × Int × Int, GcdP x y r.1 r.2.1 r.2.2 := ⟨(G, X, Y), h⟩
  rw [dif_pos h']
  obtain ⟨h1, h2, h3⟩ := h'.choose_spec.unique h
  rw [h1, h2, h3]

set_option maxRecDepth 100000 in
set_option maxHeartbeats 32000000 in
theorem gcd1_c (lv : Value) (x y : Int) (w : World) (h : Whs w lv [x, y]) (ht : Tabs w)
    (hd : ∀ W v1 v2, Wh W v1 x → Wh W v2 y → Calls Tryz.prog 70 #[v1, v2] W (DivP x y W)) :
    Calls Tryz.prog 69 #[lv] w fun e w' => e = (gcdOut x y).end_ ∧ Below w.heap.size w w' := by
  obtain ⟨a, c, p, q, rfl, c0, c1, hp, c2, c3, hq⟩ := h.two
  obtain ⟨W, hW, kk, ff, hbel, hsz⟩ := boxes1 w #[.string ⟨#[]⟩, .string ⟨#[]⟩, .string ⟨#[]⟩] 87
  have HT := Lib.hid ht
  have HD := Lib.hid hd
  have HX : Hid (∀ W', Below W.heap.size W W' → Wh W' (.agg #[.bool (decide (x < 0)), p]) x) := fun W' hb => ⟨p, rfl, (hp.below hbel.to).below hb⟩
  have HY : Hid (∀ W', Below W.heap.size W W' → Wh W' (.agg #[.bool (decide (y < 0)), q]) y) := fun W' hb => ⟨q, rfl, (hq.below hbel.to).below hb⟩
  obtain ⟨A6, n6, c6, rfl⟩ := hp.form
  obtain ⟨A7, n7, c7, rfl⟩ := hq.form
  generalize hbx : decide (x < 0) = bx at *
  generalize hby : decide (y < 0) = by_ at *
  have ha0 : a < W.heap.size := by have := World.block_lt_of_cell? w _ c0; simp at this; omega
  have k0 := keep_cell hbel.to c0
  have k1 := keep_cell hbel.to c1
  have k2 := keep_cell hbel.to c2
  have k3 := keep_cell hbel.to c3
  have r0 := kk 0
  have r1 := kk 1
  have r2 := kk 2
  have g0 := ff 0
  have g1 := ff 1
  have g2 := ff 2
  simp at r0 r1 r2
  have HBEL := Lib.hid hbel
  have HSZ : Hid (W.heap.size = w.heap.size + 1) := hsz
  have HWW := Lib.hid hW
  rw [← hW] at k0 k1 k2 k3
  clear h ht hp hq hd hbx hby kk ff hbel hsz c0 c1 c2 c3
  clear hW
  go_enter Tryz.func69, Tryz.ntmps69
  go_upto_region 1 with fail
  rw [HWW.out] at k0 k1 k2 k3
  try rw [HWW.out]
  go_cut [3] from 4 to 11 (fun p3 wx => ∃ (b3 : Nat) (b1 b2 b4 : Bool) (E1 E2 E4 : Option Addr) (m1 d1 m2 d2 m4 d4 : Nat) (G X Y : Int), p3 = .pointer (some ⟨b3, 0, none⟩) ∧ wx.cell? ⟨b3, 0, none⟩ = some (.bool b1) ∧ wx.cell? ⟨b3, 1, none⟩ = some (.slice E1 m1 d1) ∧ wx.cell? ⟨b3, 2, none⟩ = some (.bool b2) ∧ wx.cell? ⟨b3, 3, none⟩ = some (.slice E2 m2 d2) ∧ wx.cell? ⟨b3, 4, none⟩ = some (.bool b4) ∧ wx.cell? ⟨b3, 5, none⟩ = some (.slice E4 m4 d4) ∧ Hid (Wh wx (.agg #[.bool b1, .slice E1 m1 d1]) G ∧ Wh wx (.agg #[.bool b2, .slice E2 m2 d2]) X ∧ Wh wx (.agg #[.bool b4, .slice E4 m4 d4]) Y) ∧ Hid (GcdP x y G X Y ∧ G.natAbs < 10 ^ 200 ∧ X.natAbs < 10 ^ 200 ∧ Y.natAbs < 10 ^ 200) ∧ Hid (Below W.heap.size W wx))
  case first =>
    have hbw : Bel W.heap.size W W := Bel.refl _ _ (Nat.le_refl _)
    go_region_with
      ((go_at_call 70; refine (HD.out _ _ _ (HX.out _ ?_) (HY.out _ ?_)).mono ?_; (first | (with_reducible exact Below.refl _ _) | (with_reducible exact (Below.refl _ _).drew) | (with_reducible exact ((Below.refl _ _).alloc (Nat.le_refl _) _).drew) | (with_reducible exact ((Below.refl _ _).alloc (Nat.le_refl _) _))); (first | (with_reducible exact Below.refl _ _) | (with_reducible exact (Below.refl _ _).drew) | (with_reducible exact ((Below.refl _ _).alloc (Nat.le_refl _) _).drew) | (with_reducible exact ((Below.refl _ _).alloc (Nat.le_refl _) _))); rintro e W2 ⟨b1, b2, b4, p1, p2, p4, G, X, Y, rfl, hg, hx, hy, hgp, hg9, hx9, hy9, hbz⟩; obtain ⟨E1, m1, d1, rfl⟩ := wh_slice hg; obtain ⟨E2, m2, d2, rfl⟩ := wh_slice hx; obtain ⟨E4, m4, d4, rfl⟩ := wh_slice hy; have HG := Lib.hid hg; have HXX := Lib.hid hx; have HYY := Lib.hid hy; have HP := Lib.hid (And.intro hgp (And.intro hg9 (And.intro hx9 hy9))); have HBZ := Lib.hid hbz; have hm := hbz.size; simp at hm; (first | (with_reducible (have d00 := keep_cell hbz (nbw W #[.bool false, .slice none 0 0, .bool false, .slice none 0 0, .bool false, .slice none 0 0] 90 0 _ rfl); have e00 := keep_free' hbz (nbw W #[.bool false, .slice none 0 0, .bool false, .slice none 0 0, .bool false, .slice none 0 0] 90 0 _ rfl) (nbf W #[.bool false, .slice none 0 0, .bool false, .slice none 0 0, .bool false, .slice none 0 0] 90 0); have d11 := keep_cell hbz (nbw W #[.bool false, .slice none 0 0, .bool false, .slice none 0 0, .bool false, .slice none 0 0] 90 1 _ rfl); have e11 := keep_free' hbz (nbw W #[.bool false, .slice none 0 0, .bool false, .slice none 0 0, .bool false, .slice none 0 0] 90 1 _ rfl) (nbf W #[.bool false, .slice none 0 0, .bool false, .slice none 0 0, .bool false, .slice none 0 0] 90 1); have d22 := keep_cell hbz (nbw W #[.bool false, .slice none 0 0, .bool false, .slice none 0 0, .bool false, .slice none 0 0] 90 2 _ rfl); have e22 := keep_free' hbz (nbw W #[.bool false, .slice none 0 0, .bool false, .slice none 0 0, .bool false, .slice none 0 0] 90 2 _ rfl) (nbf W #[.bool false, .slice none 0 0, .bool false, .slice none 0 0, .bool false, .slice none 0 0] 90 2); have d33 := keep_cell hbz (nbw W #[.bool false, .slice none 0 0, .bool false, .slice none 0 0, .bool false, .slice none 0 0] 90 3 _ rfl); have e33 := keep_free' hbz (nbw W #[.bool false, .slice none 0 0, .bool false, .slice none 0 0, .bool false, .slice none 0 0] 90 3 _ rfl) (nbf W #[.bool false, .slice none 0 0, .bool false, .slice none 0 0, .bool false, .slice none 0 0] 90 3); have d44 := keep_cell hbz (nbw W #[.bool false, .slice none 0 0, .bool false, .slice none 0 0, .bool false, .slice none 0 0] 90 4 _ rfl); have e44 := keep_free' hbz (nbw W #[.bool false, .slice none 0 0, .bool false, .slice none 0 0, .bool false, .slice none 0 0] 90 4 _ rfl) (nbf W #[.bool false, .slice none 0 0, .bool false, .slice none 0 0, .bool false, .slice none 0 0] 90 4); have d55 := keep_cell hbz (nbw W #[.bool false, .slice none 0 0, .bool false, .slice none 0 0, .bool false, .slice none 0 0] 90 5 _ rfl); have e55 := keep_free' hbz (nbw W #[.bool false, .slice none 0 0, .bool false, .slice none 0 0, .bool false, .slice none 0 0] 90 5 _ rfl) (nbf W #[.bool false, .slice none 0 0, .bool false, .slice none 0 0, .bool false, .slice none 0 0] 90 5); have HBX := Lib.hid (heap_below (nbh W (.cells #[.bool false, .slice none 0 0, .bool false, .slice none 0 0, .bool false, .slice none 0 0] 90)) hbz))) | (have HBX := Lib.hid (heap_alloc_new W2 (.cells #[.bool false, .slice none 0 0, .bool false, .slice none 0 0, .bool false, .slice none 0 0] 90)))); clear hg hx hy hgp hg9 hx9 hy9))
    all_goals
      go_wp2_with fail
      (first
      | (obtain ⟨F, hF, r0, r1, r2, r3, r4, r5, hbf, hdf⟩ := six_set HBX.out (.bool b1) (.slice E1 m1 d1) (.bool b2) (.slice E2 m2 d2) (.bool b4) (.slice E4 m4 d4); rw [hF])
      | (obtain ⟨F, hF, r0, r1, r2, r3, r4, r5, hbf, hdf⟩ := six_new W2 (.bool b1) (.slice E1 m1 d1) (.bool b2) (.slice E2 m2 d2) (.bool b4) (.slice E4 m4 d4) 90; rw [hF]))
      go_meet
      refine ⟨_, b1, b2, b4, E1, E2, E4, m1, d1, m2, d2, m4, d4, G, X, Y, rfl, r0, r1, r2, r3, r4, r5, ⟨wh_of HG.out hdf, wh_of HXX.out hdf, wh_of HYY.out hdf⟩, HP.out, ?_⟩
      refine hbf _ _ (by omega) ?_
      (first | exact HBZ.out | exact below_then' (Below.refl _ _).drew HBZ.out | exact below_then' ((Below.refl _ _).alloc (Nat.le_refl _) _).drew HBZ.out | exact below_then' ((Below.refl _ _).alloc (Nat.le_refl _) _) HBZ.out | (trace_state; fail))
  case rest =>
    obtain ⟨b3, b1, b2, b4, E1, E2, E4, m1, d1, m2, d2, m4, d4, G, X, Y, rfl, s0, s1, s2, s3, s4, s5, HWH, HP, HBB⟩ := hcut
    have d0 := keep_cell HBB.out r0
    have d1' := keep_cell HBB.out r1
    have d2' := keep_cell HBB.out r2
    have z0 := keep_free' HBB.out r0 g0
    have z1 := keep_free' HBB.out r1 g1
    have z2 := keep_free' HBB.out r2 g2
    have HBC : Hid (Below w.heap.size w wc) := below_then' HBEL.out.to HBB.out
    have HFG : Hid (textOut G = .ok (.string (gtx G))) := if_pos HP.out.2.1
    have HFX : Hid (textOut X = .ok (.string (gtx X))) := if_pos HP.out.2.2.1
    have HFY : Hid (textOut Y = .ok (.string (gtx Y))) := if_pos HP.out.2.2.2
    have HLG : Hid ((dg 1000000000 G.natAbs).length ≤ 1000000) := Nat.le_trans (len23 HP.out.2.1) (by decide)
    have HLX : Hid ((dg 1000000000 X.natAbs).length ≤ 1000000) := Nat.le_trans (len23 HP.out.2.2.1) (by decide)
    have HLY : Hid ((dg 1000000000 Y.natAbs).length ≤ 1000000) := Nat.le_trans (len23 HP.out.2.2.2) (by decide)
    have HO : Hid (gcdOut x y = .ok (.agg #[.string (gtx G), .string (gtx X), .string (gtx Y)])) := gcdOut_eq HP.out.1
    have HG1 : Hid (∀ w', Below wc.heap.size wc w' → Wh w' (.agg #[.bool b1, .slice E1 m1 d1]) G) := fun w' hb => HWH.out.1.below hb
    have HX1 : Hid (∀ w', Below wc.heap.size wc w' → Wh w' (.agg #[.bool b2, .slice E2 m2 d2]) X) := fun w' hb => HWH.out.2.1.below hb
    have HY1 : Hid (∀ w', Below wc.heap.size wc w' → Wh w' (.agg #[.bool b4, .slice E4 m4 d4]) Y) := fun w' hb => HWH.out.2.2.below hb
    clear r0 r1 r2 g0 g1 g2 k0 k1 k2 k3 ha0
    go_wp2_with fail
    go_region_with (first
      | (go_at_call 58; refine (text_out _ Y _ (HY1.out _ HQ2.out) (HT.out.below (below_then' HBC.out HQ2.out)) HLY.out).mono ?_; rw [HFY.out]; rintro e V3 ⟨he, hbz⟩; have he2 : e = .returned (.string (gtx Y)) := he; subst he2; have z0 := keep_free' hbz d0 z0; have z1 := keep_free' hbz d1' z1; have z2 := keep_free' hbz d2' z2; have d0 := keep_cell hbz d0; have d1' := keep_cell hbz d1'; have d2' := keep_cell hbz d2'; have HQ3 := Lib.hid (below_then' HQ2.out hbz); clear he hbz)
      | (go_at_call 58; refine (text_out _ X _ (HX1.out _ HQ1.out) (HT.out.below (below_then' HBC.out HQ1.out)) HLX.out).mono ?_; rw [HFX.out]; rintro e V2 ⟨he, hbz⟩; have he2 : e = .returned (.string (gtx X)) := he; subst he2; have z0 := keep_free' hbz d0 z0; have z1 := keep_free' hbz d1' z1; have z2 := keep_free' hbz d2' z2; have d0 := keep_cell hbz d0; have d1' := keep_cell hbz d1'; have d2' := keep_cell hbz d2'; have s4 := keep_cell hbz s4; have s5 := keep_cell hbz s5; have HQ2 := Lib.hid (below_then' HQ1.out hbz); clear he hbz)
      | (go_at_call 58; refine (text_out _ G _ (HG1.out _ (Below.refl _ _).drew) (HT.out.below HBC.out.drew) HLG.out).mono ?_; rw [HFG.out]; rintro e V1 ⟨he, hbz⟩; have he2 : e = .returned (.string (gtx G)) := he; subst he2; have z0 := keep_free' hbz d0 z0; have z1 := keep_free' hbz d1' z1; have z2 := keep_free' hbz d2' z2; have d0 := keep_cell hbz d0; have d1' := keep_cell hbz d1'; have d2' := keep_cell hbz d2'; have s2 := keep_cell hbz s2; have s3 := keep_cell hbz s3; have s4 := keep_cell hbz s4; have s5 := keep_cell hbz s5; have HQ1 := Lib.hid (below_then' (Below.refl wc.heap.size wc).drew hbz); clear he hbz))
    all_goals
      go_wp2
      obtain ⟨F, hF, t0, t1, t2, hbf⟩ := three_set d0 d1' d2' (.string (gtx G)) (.string (gtx X)) (.string (gtx Y))
      rw [hF]
      refine bodyPost_ret (v := .agg #[.string (gtx G), .string (gtx X), .string (gtx Y)]) (by simp [results, Tryz.results69, go_sem, t0, t1, t2]) rfl ?_
      exact ⟨by rw [HO.out]; rfl, hbf _ _ (Nat.le_refl _) (below_then' HBC.out HQ3.out)⟩

end Go.Proofs.YtbjgpbdkofadiaaGreatDoor
