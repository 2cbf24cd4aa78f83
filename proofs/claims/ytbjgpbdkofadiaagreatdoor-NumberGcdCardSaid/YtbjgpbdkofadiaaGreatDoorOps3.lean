/- The exported functions of two integers: Sub, Cmp. -/
import Derived.Test.YtbjgpbdkofadiaaGreatDoorOps2
namespace Go.Proofs.YtbjgpbdkofadiaaGreatDoor
set_option linter.unusedVariables false
set_option linter.unusedSimpArgs false
open Go.RowKit Go.Shelf Go.Proofs

set_option maxHeartbeats 2000000 in
theorem sub1_c (lv : Value) (x y : Int) (w : World) (h : Whs w lv [x, y]) (ht : Tabs w) (hx : x.natAbs < 10 ^ 200) (hy : y.natAbs < 10 ^ 200) :
    Calls Tryz.prog 95 #[lv] w fun e w' => e = (textOut (x + -y)).end_ ∧ Below w.heap.size w w' := by
  obtain ⟨a, c, p, q, rfl, c0, c1, hp, c2, c3, hq⟩ := h.two
  have HT := Lib.hid ht
  have HX : Hid (Wh w.drew (.agg #[.bool (decide (x < 0)), p]) x) := ⟨p, rfl, hp.drew⟩
  have HY : Hid (Wh w.drew (.agg #[.bool (decide (y < 0)), q]) y) := ⟨q, rfl, hq.drew⟩
  obtain ⟨A6, n6, c6, rfl⟩ := hp.form
  obtain ⟨A7, n7, c7, rfl⟩ := hq.form
  have HLX : Hid ((dg 1000000000 x.natAbs).length ≤ 1000000) := Nat.le_trans (len23 hx) (by decide)
  have HLY : Hid ((dg 1000000000 (-y).natAbs).length ≤ 1000000) := by show _ ≤ _; rw [Int.natAbs_neg]; exact Nat.le_trans (len23 hy) (by decide)
  have HL : Hid ((dg 1000000000 (x + -y).natAbs).length ≤ 1000000) := Nat.le_trans (dg_length_mono (by decide) (Int.natAbs_add_le x (-y))) (by rw [Int.natAbs_neg]; exact Nat.le_trans (len_add hx hy) (by decide))
  have HC0 : Hid (w.drew.cell? ⟨a, 0, none⟩ = some (.bool (decide (x < 0)))) := c0
  have HC1 : Hid (w.drew.cell? ⟨a, 1, none⟩ = some (.slice A6 n6 c6)) := c1
  generalize hbx : decide (x < 0) = bx at *
  generalize hby : decide (y < 0) = by_ at *
  clear h ht hp hq hbx hby hx hy
  obtain ⟨o, ho⟩ : ∃ o, textOut (x + -y) = o := ⟨_, rfl⟩
  have HO := Lib.hid ho
  rw [ho]
  clear ho
  cases o with
  | ok r =>
    go_enter Tryz.func95, Tryz.ntmps95
    go_wp2_with fail
    go_region_with (first
      | (go_at_call 94; refine (negative_c _ y _ HY.out).mono ?_; rintro e W1 ⟨t, rfl, hu, hbz⟩; have HM := Lib.hid hu; have HX1 := Lib.hid (HX.out.below hbz); have k0 := keep_cell hbz HC0.out; have k1 := keep_cell hbz HC1.out; have HB0 := Lib.hid (below_then' (Below.refl w.heap.size w).drew hbz); clear hu hbz)
      | (go_at_call 92; refine (add_c _ _ x (-y) _ HX1.out HM.out HLX.out HLY.out).mono ?_; rintro e W2 ⟨u, rfl, hu, hbz⟩; have HU := Lib.hid hu.wh; have HB := Lib.hid (below_then' HB0.out hbz); clear hu hbz)
      | (go_at_call 58; refine (text_out _ (x + -y) _ HU.out (HT.out.below HB.out) HL.out).mono ?_; rw [HO.out]; rintro e W3 ⟨he, hbz⟩; have he2 : e = .returned r := he; subst he2; have HB2 := Lib.hid (below_then' HB.out hbz); clear he hbz))
    all_goals
      go_wp2
      go_ret
      exact ⟨rfl, HB2.out⟩
  | err k =>
    go_enter Tryz.func95, Tryz.ntmps95
    go_wp2_with fail
    go_region_dies
    all_goals
      go_at_call 94
      refine (negative_c _ y _ HY.out).mono ?_
      rintro e W1 ⟨t, rfl, hu, hbz⟩
      have HM := Lib.hid hu
      have HX1 := Lib.hid (HX.out.below hbz)
      have k0 := keep_cell hbz HC0.out
      have k1 := keep_cell hbz HC1.out
      have HB0 := Lib.hid (below_then' (Below.refl w.heap.size w).drew hbz)
      clear hu hbz
      dsimp only
      apply_assumption
      try
        refine wpAny_ready (rs := [2]) (by decide +kernel) (by simp) ?_
        refine AllReady.cons rfl (fun K hK => ?_) AllReady.nil
        go_simp
        apply_assumption
      refine wpAny_ready (rs := [7]) (by kernel_rfl) (by simp) ?_
      refine AllReady.cons rfl (fun K hK => ?_) AllReady.nil
      go_simp
      go_at_call 92
      refine (add_c _ _ x (-y) _ HX1.out HM.out HLX.out HLY.out).mono ?_
      rintro e W2 ⟨u, rfl, hu, hbz⟩
      have HU := Lib.hid hu.wh
      have HB := Lib.hid (below_then' HB0.out hbz)
      clear hu hbz
      dsimp only
      apply_assumption
      refine wpAny_ready (rs := [8]) (by kernel_rfl) (by simp) ?_
      refine AllReady.cons rfl (fun K hK => ?_) AllReady.nil
      go_simp
      go_at_call 58
      refine (text_out _ (x + -y) _ HU.out (HT.out.below HB.out) HL.out).mono ?_
      rw [HO.out]
      rintro e W3 ⟨he, hbz⟩
      have he2 : e = .panicked (failChain k) := he
      subst he2
      dsimp only
      first
        | exact ⟨rfl, rfl, below_then' HB.out hbz⟩
        | (apply_assumption; exact ⟨rfl, rfl, below_then' HB.out hbz⟩)

set_option maxHeartbeats 1000000 in
theorem numSub_c (S T : ByteArray) (w : World) (ht : Tabs w) : Calls Tryz.prog 44 #[.string S, .string T] w (Bi S T (fun x y => textOut (x + -y)) (.string ⟨#[]⟩) w) := by
  have HT := Lib.hid ht
  clear ht
  go_enter Tryz.func44, Tryz.ntmps44
  go_wp2_with (go_at_call 55; refine (withStr_c 95 #[] (enters_of Tryz.func95 (by kernel_rfl) rfl) _ [S, T] (fun zs => textOut (zs.headD 0 + -(zs.getD 1 0))) _ (strs_two w S T _) (by simp) ?hf).mono ?_)
  case hf =>
    intro zs hz W lv hb hw
    obtain ⟨x, y, rfl, hx, hy⟩ := two_zs hz
    exact sub1_c lv x y W hw (HT.out.below (Below.trans ((Below.refl w.heap.size w).alloc (Nat.le_refl _) _) (hb.mono (by simp)))) hx.2 hy.2
  rintro e w' h
  obtain ⟨a, b, rfl, hr⟩ := with_two (f := fun x y => textOut (x + -y)) h ((Below.refl w.heap.size w).alloc (Nat.le_refl _) _)
  have HR := Lib.hid hr
  clear h hr
  go_wp2
  go_ret2
  exact HR.out

set_option maxHeartbeats 2000000 in
theorem cmp1_c (lv : Value) (x y : Int) (w : World) (h : Whs w lv [x, y]) (ht : Tabs w) (hx : x.natAbs < 10 ^ 200) (hy : y.natAbs < 10 ^ 200) :
    Calls Tryz.prog 97 #[lv] w fun e w' => e = (Out.ok (.int .i64 (sgn (x + -y)))).end_ ∧ Below w.heap.size w w' := by
  obtain ⟨a, c, p, q, rfl, c0, c1, hp, c2, c3, hq⟩ := h.two
  have HT := Lib.hid ht
  have HX : Hid (Wh w.drew (.agg #[.bool (decide (x < 0)), p]) x) := ⟨p, rfl, hp.drew⟩
  have HY : Hid (Wh w.drew (.agg #[.bool (decide (y < 0)), q]) y) := ⟨q, rfl, hq.drew⟩
  obtain ⟨A6, n6, c6, rfl⟩ := hp.form
  obtain ⟨A7, n7, c7, rfl⟩ := hq.form
  have HLX : Hid ((dg 1000000000 x.natAbs).length ≤ 1000000) := Nat.le_trans (len23 hx) (by decide)
  have HLY : Hid ((dg 1000000000 (-y).natAbs).length ≤ 1000000) := by show _ ≤ _; rw [Int.natAbs_neg]; exact Nat.le_trans (len23 hy) (by decide)
  have HL : Hid ((dg 1000000000 (x + -y).natAbs).length ≤ 1000000) := Nat.le_trans (dg_length_mono (by decide) (Int.natAbs_add_le x (-y))) (by rw [Int.natAbs_neg]; exact Nat.le_trans (len_add hx hy) (by decide))
  have HC0 : Hid (w.drew.cell? ⟨a, 0, none⟩ = some (.bool (decide (x < 0)))) := c0
  have HC1 : Hid (w.drew.cell? ⟨a, 1, none⟩ = some (.slice A6 n6 c6)) := c1
  generalize hbx : decide (x < 0) = bx at *
  generalize hby : decide (y < 0) = by_ at *
  clear h ht hp hq hbx hby hx hy
  go_enter Tryz.func97, Tryz.ntmps97
  go_wp2_with fail
  go_region_with (first
    | (go_at_call 94; refine (negative_c _ y _ HY.out).mono ?_; rintro e W1 ⟨t, rfl, hu, hbz⟩; have HM := Lib.hid hu; have HX1 := Lib.hid (HX.out.below hbz); have k0 := keep_cell hbz HC0.out; have k1 := keep_cell hbz HC1.out; have HB0 := Lib.hid (below_then' (Below.refl w.heap.size w).drew hbz); clear hu hbz)
    | (go_at_call 92; refine (add_c _ _ x (-y) _ HX1.out HM.out HLX.out HLY.out).mono ?_; rintro e W2 ⟨u, rfl, hu, hbz⟩; have HU := Lib.hid hu.wh; have HB := Lib.hid (below_then' HB0.out hbz); clear hu hbz)
    | (go_at_call 98; refine (signum_c _ (x + -y) _ HU.out HL.out).mono ?_; rintro e W3 ⟨rfl, hbz⟩; have HB2 := Lib.hid (below_then' HB.out hbz); clear hbz))
  all_goals
    go_wp2
    go_ret
    exact ⟨rfl, HB2.out⟩

set_option maxHeartbeats 1000000 in
theorem numCmp_c (S T : ByteArray) (w : World) (ht : Tabs w) : Calls Tryz.prog 45 #[.string S, .string T] w (Bi S T (fun x y => Out.ok (.int .i64 (sgn (x + -y)))) (.int .i64 0) w) := by
  have HT := Lib.hid ht
  clear ht
  go_enter Tryz.func45, Tryz.ntmps45
  go_wp2_with (go_at_call 96; refine (withInt_c 97 #[] (enters_of Tryz.func97 (by kernel_rfl) rfl) _ [S, T] (fun zs => Out.ok (.int .i64 (sgn (zs.headD 0 + -(zs.getD 1 0))))) _ (strs_two w S T _) (by simp) ?hf).mono ?_)
  case hf =>
    intro zs hz W lv hb hw
    obtain ⟨x, y, rfl, hx, hy⟩ := two_zs hz
    exact cmp1_c lv x y W hw (HT.out.below (Below.trans ((Below.refl w.heap.size w).alloc (Nat.le_refl _) _) (hb.mono (by simp)))) hx.2 hy.2
  rintro e w' h
  obtain ⟨a, b, rfl, hr⟩ := with_two (f := fun x y => Out.ok (.int .i64 (sgn (x + -y)))) h ((Below.refl w.heap.size w).alloc (Nat.le_refl _) _)
  have HR := Lib.hid hr
  clear h hr
  go_wp2
  go_ret2
  exact HR.out

end Go.Proofs.YtbjgpbdkofadiaaGreatDoor
