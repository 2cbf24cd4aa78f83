/- The reference's inverse. -/
import Derived.Test.YtbjgpbdkofadiaaGreatDoorRefO
import Derived.Deep.DrawnRows
namespace Go.Proofs.YtbjgpbdkofadiaaGreatDoor
set_option linter.unusedVariables false
set_option linter.unusedSimpArgs false
open Go.RowKit Go.Shelf
attribute [local go_sem ↓] Go.wp_at_zero Go.wp_at_succ

/-- Box g holds the reference's integer z. -/
def Rx (w : World) (g : Nat) (z : Int) : Prop := ∃ A n c b t, w.heap[g]? = some (.cells #[.slice A n c, .bool b] t (0, 0)) ∧ Ri w (.agg #[.slice A n c, .bool b]) z
theorem Rx.below {w w' : World} {g : Nat} {z : Int} (h : Rx w g z) (hb : Below w.heap.size w w') : Rx w' g z := by
  obtain ⟨A, n, c, b, t, h, hr⟩ := h
  exact ⟨A, n, c, b, t, heap_below h hb, hr.below hb⟩
theorem Rx.lt {w : World} {g : Nat} {z : Int} (h : Rx w g z) : g < w.heap.size := by
  obtain ⟨A, n, c, b, t, h, hr⟩ := h
  exact (Array.getElem?_eq_some_iff.1 h).1
theorem rx_zero {w : World} {g : Nat} {t : TypeId} (h : w.heap[g]? = some (.cells #[.slice none 0 0, .bool false] t (0, 0))) : Rx w g 0 :=
  ⟨none, 0, 0, false, t, h, _, rfl, Dg.zero (by decide) _⟩
theorem rx_new (w : World) {A : Option Addr} {n c : Nat} {b : Bool} (t : TypeId) {z : Int} (h : Ri w (.agg #[.slice A n c, .bool b]) z) : Rx (w.alloc (.cells #[.slice A n c, .bool b] t)) w.heap.size z :=
  ⟨A, n, c, b, t, heap_alloc_new _ _, h.below ((Below.refl _ _).alloc (Nat.le_refl _) _)⟩
/-- What a store into one box leaves. -/
structure Put (w F : World) (g : Nat) (z : Int) : Prop where
  at_ : Rx F g z
  ri : ∀ v y, Ri w v y → Ri F v y
  rx : ∀ g' y, g' ≠ g → Rx w g' y → Rx F g' y
  bel : ∀ k w0, k ≤ g → Below k w0 w → Below k w0 F
  heap : ∀ g', g' ≠ g → F.heap[g']? = w.heap[g']?
theorem rx_put {w : World} {g n c : Nat} {A : Option Addr} {b : Bool} {z0 z : Int} (hg : Rx w g z0) (h : Ri w (.agg #[.slice A n c, .bool b]) z) :
    ∃ F, (w.setCell ⟨g, 0, none⟩ (.slice A n c)).setCell ⟨g, 1, none⟩ (.bool b) = F ∧ Put w F g z := by
  obtain ⟨A0, n0, c0, b0, t, hb, -⟩ := hg
  have b1 := box_put hb 0 (.slice A n c)
  have e1 : (#[.slice A0 n0 c0, .bool b0] : Array Value).setIfInBounds 0 (.slice A n c) = #[.slice A n c, .bool b0] := by simp
  rw [e1] at b1
  have b2 := box_put b1 1 (.bool b)
  have e2 : (#[.slice A n c, .bool b0] : Array Value).setIfInBounds 1 (.bool b) = #[.slice A n c, .bool b] := by simp
  rw [e2] at b2
  have hri : ∀ v y, Ri w v y → Ri ((w.setCell ⟨g, 0, none⟩ (.slice A n c)).setCell ⟨g, 1, none⟩ (.bool b)) v y := fun v y h => by
    obtain ⟨p, e, hd⟩ := h
    exact ⟨p, e, dg_put (dg_put hd hb (two_noi (noi_slice _ _ _) (noi_bool _)) _ _) b1 (two_noi (noi_slice _ _ _) (noi_bool _)) _ _⟩
  have hhp : ∀ g', g' ≠ g → ((w.setCell ⟨g, 0, none⟩ (.slice A n c)).setCell ⟨g, 1, none⟩ (.bool b)).heap[g']? = w.heap[g']? := fun g' hne =>
    (Below.heap_setCell _ _ _ _ hne).trans (Below.heap_setCell _ _ _ _ hne)
  refine ⟨_, rfl, ⟨_, _, _, _, _, b2, hri _ _ h⟩, hri, fun g' y hne hx => ?_, fun k w0 hk hb => (hb.setCell hk _).setCell hk _, hhp⟩
  obtain ⟨A', n', c', b', t', hb', hr'⟩ := hx
  exact ⟨A', n', c', b', t', (hhp g' hne).trans hb', hri _ _ hr'⟩

theorem put_new {w : World} {n c : Nat} {A : Option Addr} {b : Bool} (t : TypeId) {z : Int} (h : Ri w (.agg #[.slice A n c, .bool b]) z) :
    ∃ F, w.alloc (.cells #[.slice A n c, .bool b] t) = F ∧ Put w F w.heap.size z := by
  refine ⟨_, rfl, rx_new w t h, fun v y h => h.below ((Below.refl _ _).alloc (Nat.le_refl _) _), fun g' y _ h => h.below ((Below.refl _ _).alloc (Nat.le_refl _) _), fun k w0 hk hb => hb.alloc hk _, fun g' hne => ?_⟩
  show (w.heap.push _)[g']? = _
  rw [Array.getElem?_push, if_neg hne]
theorem below_to {V w w' : World} (h : Below V.heap.size V w) (hb : Below w.heap.size w w') : Below V.heap.size V w' := h.trans (hb.mono h.size)
theorem below_al {V w : World} (h : Below V.heap.size V w) (o : Obj) : Below V.heap.size V (w.alloc o) := h.alloc h.size o
/-- What inverse finds. -/
structure InvP (a m x : Int) : Prop where
  low : 0 ≤ x
  high : x < m
  mul : ∃ t, x * a + t * m = 1
theorem inv_done {a m r0 one s : Int} (hm : 0 < m) (hr : r0 = a.fmod m) (h : one * r0 + s * m = 1) : InvP a m (one.fmod m) := by
  have h1 := Int.mul_fdiv_add_fmod a m
  have h2 := Int.mul_fdiv_add_fmod one m
  refine ⟨Int.fmod_nonneg_of_pos _ hm, Int.fmod_lt_of_pos _ hm, s + -(one * a.fdiv m) + one.fdiv m * a, ?_⟩
  rw [← hr] at h1
  generalize a.fdiv m = q at *
  generalize one.fdiv m = q2 at *
  generalize one.fmod m = x at *
  have e1 : a = m * q + r0 := h1.symm
  have e2 : one = m * q2 + x := h2.symm
  clear h1 h2 hr hm
  subst e1
  subst e2
  rw [← h]
  grind
theorem gcd_fmod {a m : Int} {r0 M : Nat} (hm : m = (M : Int)) (hr : a.fmod m = (r0 : Int)) (h : Int.gcd a m = 1) : Nat.gcd r0 M = 1 := by
  have h1 : ((Nat.gcd r0 M : Nat) : Int) ∣ a := by
    rw [← Int.mul_fdiv_add_fmod a m, hr, hm]
    exact Int.dvd_add (Int.dvd_trans (Int.natCast_dvd_natCast.2 (Nat.gcd_dvd_right _ _)) (Int.dvd_mul_right _ _)) (Int.natCast_dvd_natCast.2 (Nat.gcd_dvd_left _ _))
  have h2 : ((Nat.gcd r0 M : Nat) : Int) ∣ m := by rw [hm]; exact Int.natCast_dvd_natCast.2 (Nat.gcd_dvd_right _ _)
  have h3 := Nat.dvd_gcd (Int.ofNat_dvd_left.1 h1) (Int.ofNat_dvd_left.1 h2)
  have h4 : Nat.gcd a.natAbs m.natAbs = 1 := h
  rw [h4] at h3
  exact Nat.dvd_one.1 h3
theorem len_succ {k m : Nat} (h : k ≤ m + 1) : (dg 10 k).length ≤ (dg 10 m).length + 1 := by
  refine (dg_length_le (by decide) _ _).2 ?_
  have := lt_pow_length (b := 10) (by decide) m
  rw [Nat.pow_succ]; omega
theorem ri_one {w : World} {g : Nat} (h : w.cell? ⟨g, 0, none⟩ = some (.int .i64 1)) : Ri w (.agg #[.slice (some ⟨g, 0, none⟩) 1 1, .bool false]) 1 :=
  ⟨_, rfl, dg_lit1 (d := 1) (by decide) (by decide) h (by decide) (by decide)⟩

set_option maxRecDepth 100000 in
set_option maxHeartbeats 4000000 in
theorem rinverse_c (v1 v2 : Value) (a m : Int) (w : World) (h1 : Ri w v1 a) (h2 : Ri w v2 m) (hm0 : 0 < m) (hco : Int.gcd a m = 1) (hl1 : (dg 10 a.natAbs).length ≤ 900000) (hl2 : (dg 10 m.natAbs).length ≤ 900000) :
    Calls Tryz.prog 80 #[v1, v2] w fun e w' => ∃ v x, e = .returned v ∧ Ri w' v x ∧ InvP a m x ∧ Below w.heap.size w w' := by
  have hfa := fld_a
  have hfb := fld_b
  obtain ⟨A1, n1, c1, bx, rfl⟩ := h1.form
  obtain ⟨A2, n2, c2, by_, rfl⟩ := h2.form
  have HM := Lib.hid (And.intro hm0 (And.intro hco (And.intro hl1 hl2)))
  obtain ⟨W, hW, hh0, hh1, hh2, hbel, hsz⟩ := boxes3h w #[.slice A1 n1 c1, .bool bx] #[.slice A2 n2 c2, .bool by_] #[.slice none 0 0, .bool false] 32 32 32
  have c00 := box0 hh0; have c01 := box1 hh0; have c10 := box0 hh1; have c11 := box1 hh1
  have HX := Lib.hid (h1.below hbel.to)
  have HY := Lib.hid (h2.below hbel.to)
  have HR3 : Hid (Rx W (w.heap.size + 1) m) := ⟨_, _, _, _, _, hh1, HY.out⟩
  have HR4 : Hid (Rx W (w.heap.size + 1 + 1) 0) := rx_zero hh2
  have HBEL := Lib.hid hbel.to
  have HSZ := Lib.hid hsz
  clear hh0 hh1 hh2 hbel hsz h1 h2 hm0 hco hl1 hl2
  go_enter Tryz.func80, Tryz.ntmps80
  go_upto_region 1 with fail
  try rw [hW]
  clear hW
  go_upto_region 2 with fail
  have hB1 : Below W.heap.size W ((W.alloc (.cells #[.int .i64 1] 3)).alloc (.cells #[.slice (some ⟨W.heap.size, 0, none⟩) 1 1, .bool false] 32)) := ((Below.refl _ _).alloc (Nat.le_refl _) _).alloc (by simp) _
  have hR5 : Rx ((W.alloc (.cells #[.int .i64 1] 3)).alloc (.cells #[.slice (some ⟨W.heap.size, 0, none⟩) 1 1, .bool false] 32)) (W.heap.size + 1) 1 := by
    have h := rx_new (W.alloc (.cells #[.int .i64 1] 3)) 32 (ri_one (lit1 W 3))
    simpa using h
  obtain ⟨V, hV⟩ : ∃ V, (W.alloc (.cells #[.int .i64 1] 3)).alloc (.cells #[.slice (some ⟨W.heap.size, 0, none⟩) 1 1, .bool false] 32) = V := ⟨_, rfl⟩
  rw [hV] at hB1 hR5 ⊢
  have HBV := Lib.hid hB1
  have HR5 := Lib.hid hR5
  have c00 := keep_cell hB1 c00; have c01 := keep_cell hB1 c01; have c10 := keep_cell hB1 c10; have c11 := keep_cell hB1 c11
  clear hV hB1 hR5
  go_upto_region 3 with (go_at_call 30; (with_reducible refine (rdown_c _ _ a m _ (HX.out.below HBV.out) (HY.out.below HBV.out) (by have := HM.out.1; omega) (by have := HM.out.2.2.1; omega) (by have := HM.out.2.2.2; omega)).mono ?_); rintro e W2 ⟨u, rfl, hu, hbz⟩; obtain ⟨A3, n3, c3, b3, A4, n4, c4, b4, rfl⟩ := hu.form; have HU := Lib.hid hu.parts; have HB2 := Lib.hid hbz; clear hbz hu)
  obtain ⟨R0, hR0⟩ : ∃ R0, a.fmod m = R0 := ⟨_, rfl⟩
  have HR0 := Lib.hid hR0
  have hB3 : Below W2.heap.size W2 (W2.alloc (.cells #[.slice A4 n4 c4, .bool b4] 32)) := (Below.refl _ _).alloc (Nat.le_refl _) _
  have hR6 := rx_new W2 32 HU.out.2
  rw [hR0] at hR6
  have hp6 : W2.heap.size < (W2.alloc (.cells #[.slice A4 n4 c4, .bool b4] 32)).heap.size := by simp
  obtain ⟨V2, hV2⟩ : ∃ V2, W2.alloc (.cells #[.slice A4 n4 c4, .bool b4] 32) = V2 := ⟨_, rfl⟩
  rw [hV2] at hB3 hR6 hp6 ⊢
  have hBV2 := below_then' HB2.out hB3
  have hBW2 := below_then' HBV.out hBV2
  have HBT := Lib.hid (below_then' HBEL.out hBW2)
  have HR3 := Lib.hid (HR3.out.below hBW2)
  have HR4 := Lib.hid (HR4.out.below hBW2)
  have HR5 := Lib.hid (HR5.out.below hBV2)
  have HR6 := Lib.hid hR6
  have HY := Lib.hid (HY.out.below hBW2)
  have c10 := keep_cell hBV2 c10; have c11 := keep_cell hBV2 c11
  have hq3 : w.heap.size + 1 + 1 < W2.heap.size := Nat.lt_of_lt_of_le (by rw [HSZ.out]; omega) (below_then' HBV.out HB2.out).size
  obtain ⟨P6, hP6⟩ : ∃ P6, W2.heap.size = P6 := ⟨_, rfl⟩
  rw [hP6] at hp6 hq3 HR6 ⊢
  obtain ⟨P5, hP5⟩ : ∃ P5, W.heap.size + 1 = P5 := ⟨_, rfl⟩
  have HR5' : Hid (Rx V2 P5 1) := by show Rx V2 P5 1; rw [← hP5]; exact HR5.out
  rw [hP5]
  obtain ⟨A5, n5, c5, b5, t5, h5, hri5⟩ := HR5'.out
  have c50 := box0 h5; have c51 := box1 h5
  have HI5 := Lib.hid hri5
  clear hV2 hB3 hR6 hBV2 hBW2 hP6 hP5 h5 hri5 hR0 c00 c01 HR5 HBV HB2 HU HX
  have a50 : ∀ o, (V2.alloc o).cell? ⟨P5, 0, none⟩ = some (.slice A5 n5 c5) := fun o => keep_cell ((Below.refl _ _).alloc (Nat.le_refl _) o) c50
  have a51 : ∀ o, (V2.alloc o).cell? ⟨P5, 1, none⟩ = some (.bool b5) := fun o => keep_cell ((Below.refl _ _).alloc (Nat.le_refl _) o) c51
  go_wp2_with fail
  have k1 : Below V2.heap.size V2 (V2.alloc (.cells #[.slice A2 n2 c2, .bool by_] 32)) := (Below.refl _ _).alloc (Nat.le_refl _) _
  have k2 : Below (V2.heap.size + 1) (V2.alloc (.cells #[.slice A2 n2 c2, .bool by_] 32)) ((V2.alloc (.cells #[.slice A2 n2 c2, .bool by_] 32)).alloc (.cells #[.slice A5 n5 c5, .bool b5] 32)) := (Below.refl _ _).alloc (by simp) _
  have k3 : Below (V2.heap.size + 1 + 1) ((V2.alloc (.cells #[.slice A2 n2 c2, .bool by_] 32)).alloc (.cells #[.slice A5 n5 c5, .bool b5] 32)) (((V2.alloc (.cells #[.slice A2 n2 c2, .bool by_] 32)).alloc (.cells #[.slice A5 n5 c5, .bool b5] 32)).alloc (.cells #[.slice none 0 0, .bool false] 32)) := (Below.refl _ _).alloc (by simp) _
  have r7 : Rx (((V2.alloc (.cells #[.slice A2 n2 c2, .bool by_] 32)).alloc (.cells #[.slice A5 n5 c5, .bool b5] 32)).alloc (.cells #[.slice none 0 0, .bool false] 32)) V2.heap.size m := ((rx_new V2 32 HY.out).below (by simpa using k2)).below (by simpa using k3)
  have r8 : Rx (((V2.alloc (.cells #[.slice A2 n2 c2, .bool by_] 32)).alloc (.cells #[.slice A5 n5 c5, .bool b5] 32)).alloc (.cells #[.slice none 0 0, .bool false] 32)) (V2.heap.size + 1) 1 := by
    have h := rx_new (V2.alloc (.cells #[.slice A2 n2 c2, .bool by_] 32)) 32 (HI5.out.below k1)
    have h2 := h.below (by simpa using k3)
    simpa using h2
  have r9 : Rx (((V2.alloc (.cells #[.slice A2 n2 c2, .bool by_] 32)).alloc (.cells #[.slice A5 n5 c5, .bool b5] 32)).alloc (.cells #[.slice none 0 0, .bool false] 32)) (V2.heap.size + 1 + 1) 0 := rx_zero (heap_new' _ _ _ (by simp))
  have k4 : Below V2.heap.size V2 (((V2.alloc (.cells #[.slice A2 n2 c2, .bool by_] 32)).alloc (.cells #[.slice A5 n5 c5, .bool b5] 32)).alloc (.cells #[.slice none 0 0, .bool false] 32)) := (((Below.refl _ _).alloc (Nat.le_refl _) _).alloc (by simp) _).alloc (by simp; omega) _
  obtain ⟨V3, hV3⟩ : ∃ V3, (((V2.alloc (.cells #[.slice A2 n2 c2, .bool by_] 32)).alloc (.cells #[.slice A5 n5 c5, .bool b5] 32)).alloc (.cells #[.slice none 0 0, .bool false] 32)) = V3 := ⟨_, rfl⟩
  rw [hV3] at r7 r8 r9 k4 ⊢
  have HR3 := Lib.hid (HR3.out.below k4)
  have HR4 := Lib.hid (HR4.out.below k4)
  have HR6 := Lib.hid (HR6.out.below k4)
  have HR7 := Lib.hid r7
  have HR8 := Lib.hid r8
  have HR9 := Lib.hid r9
  have HBT := Lib.hid (below_then' HBT.out k4)
  clear hV3 r7 r8 r9 k1 k2 k3 k4 c10 c11 c50 c51 a50 a51 HI5 HY HR5'
  obtain ⟨P7, hP7⟩ : ∃ P7, V2.heap.size = P7 := ⟨_, rfl⟩
  rw [hP7] at hp6 HR7 HR8 HR9 ⊢
  clear hP7
  obtain ⟨P8, hP8⟩ : ∃ P8, P7 + 1 = P8 := ⟨_, rfl⟩
  rw [hP8] at HR8 HR9 ⊢
  obtain ⟨P9, hP9⟩ : ∃ P9, P8 + 1 = P9 := ⟨_, rfl⟩
  rw [hP9] at HR9 ⊢
  have hq7 : P7 < P8 := by omega
  have hq8 : P8 < P9 := by omega
  clear hP8 hP9
  obtain ⟨M, hM⟩ : ∃ M : Nat, m = (M : Int) := ⟨m.toNat, by have := HM.out.1; omega⟩
  have HMM := Lib.hid hM
  have hMp : 0 < M := by have := HM.out.1; omega
  obtain ⟨r0, hr0⟩ : ∃ r0 : Nat, R0 = (r0 : Int) := ⟨R0.toNat, by rw [← HR0.out]; have := Int.fmod_nonneg_of_pos a HM.out.1; omega⟩
  have HRR := Lib.hid hr0
  have hrm : r0 < M := by have := Int.fmod_lt_of_pos a HM.out.1; rw [HR0.out] at this; omega
  have HLM : Hid ((dg 10 M).length ≤ 900000) := by have := HM.out.2.2.2; rw [HMM.out] at this; exact this
  have HE0 : Hid (Eu r0 M M r0 0 1) := by
    have h := (Eu.start r0 M).step hMp (by simp)
    rw [Nat.mod_eq_of_lt hrm] at h
    show Eu r0 M M r0 0 1
    simpa using h
  have HMP := Lib.hid hMp
  clear hM hr0 hrm hMp
  go_loopg [10] r0 (fun g u10 wr => ∃ (pa : Nat) (one zero : Int), Hid (Eu r0 M pa g one zero ∧ 0 < pa ∧ pa ≤ M ∧ g ≤ M) ∧ Hid (Rx wr P6 (g : Int)) ∧ Hid (Rx wr P7 (pa : Int)) ∧ Hid (Rx wr P8 zero) ∧ Hid (Rx wr P9 one) ∧ Hid (Rx wr (w.heap.size + 1) m) ∧ Hid (Rx wr (w.heap.size + 1 + 1) 0) ∧ Hid (Below w.heap.size w wr))
  case atStart => exact ⟨M, 0, 1, ⟨HE0.out, HMP.out, Nat.le_refl _, by have := HE0.out.bz; have h := Int.fmod_lt_of_pos a HM.out.1; rw [HR0.out, HRR.out, HMM.out] at h; omega⟩, by rw [← HRR.out]; exact HR6.out, by rw [← HMM.out]; exact HR7.out, HR8.out, HR9.out, HR3.out, HR4.out, HBT.out⟩
  case round =>
    obtain ⟨pa, one, zero, HE, HX6, HX7, HX8, HX9, HX3, HX4, HB⟩ := hrel
    obtain ⟨A6, n6, c6, b6, t6, h6, hi6⟩ := HX6.out
    obtain ⟨A7, n7, c7, b7, t7, h7, hi7⟩ := HX7.out
    obtain ⟨A8, n8, c8, b8, t8, h8, hi8⟩ := HX8.out
    obtain ⟨A9, n9, c9, b9, t9, h9, hi9⟩ := HX9.out
    obtain ⟨A3, n3, c3, b3, t3, h3, hi3⟩ := HX3.out
    have c60 := box0 h6; have c61 := box1 h6; have c70 := box0 h7; have c71 := box1 h7; have c80 := box0 h8; have c81 := box1 h8; have c90 := box0 h9; have c91 := box1 h9; have c30 := box0 h3; have c31 := box1 h3
    obtain ⟨hn6, -⟩ := ri_parts hi6
    have HI6 := Lib.hid hi6; have HI7 := Lib.hid hi7; have HI8 := Lib.hid hi8; have HI9 := Lib.hid hi9; have HI3 := Lib.hid hi3
    have HN6 := Lib.hid hn6
    have hl9 : P9 < wr.heap.size := HX9.out.lt
    clear h6 h7 h8 h9 h3 hi6 hi7 hi8 hi9 hi3 hn6
    by_cases hg0 : gk = 0
    · subst hg0
      obtain rfl : n6 = 0 := by rw [HN6.out]; simp [dg_zero]
      have hpa : pa = 1 := by
        have h := HE.out.1.gcd
        rw [Nat.gcd_zero_right, gcd_fmod HMM.out (by rw [HR0.out, HRR.out]) HM.out.2.1] at h
        exact h
      obtain ⟨s, hs⟩ := HE.out.1.fa
      have HIV : Hid (InvP a m (one.fmod m)) := inv_done (r0 := R0) (s := s) HM.out.1 HR0.out.symm (by rw [HRR.out, HMM.out, hs, hpa]; rfl)
      have HL1 : Hid ((dg 10 one.natAbs).length ≤ 1000000) := by have h1 := len_succ HE.out.1.one_; have h2 := HLM.out; show _ ≤ _; omega
      have HL2 : Hid ((dg 10 m.natAbs).length ≤ 999999) := by have h2 := HM.out.2.2.2; show _ ≤ _; omega
      have HM0 : Hid (m ≠ 0) := by have := HM.out.1; show _ ≠ _; omega
      obtain ⟨A4', n4', c4', b4', t4, h4, -⟩ := HX4.out
      have H4 := Lib.hid h4
      clear h4 hs hpa
      go_wp2_with (go_at_call 30; (with_reducible refine (rdown_c _ _ one m _ HI9.out HI3.out HM0.out HL1.out HL2.out).mono ?_); rintro e W4 ⟨u, rfl, hu, hbz⟩; obtain ⟨A10, n10, c10, b10, A11, n11, c11, b11, rfl⟩ := hu.form; have HU := Lib.hid hu.parts; have HB4 := Lib.hid hbz; have h4 := heap_below H4.out hbz; have e0 := box0 h4; have e1 := box1 h4; have z0 := free_of_heap h4 0; have z1 := free_of_heap h4 1; have H5 := Lib.hid h4; clear hbz hu h4)
      obtain ⟨F, hF, r0', r1', hr, hbf⟩ := ri_put HU.out.2 H5.out
      rw [hF]
      refine bodyPost_ret (v := .agg #[.slice A11 n11 c11, .bool b11]) (by simp [results, Tryz.results80, go_sem, r0', r1']) rfl ?_
      exact ⟨_, _, rfl, hr, HIV.out, hbf _ _ (by omega) (below_then HB.out HB4.out (by omega))⟩
    · have hnp : 0 < n6 := by
        have h := dg_eq_nil (b := 10) (n := (gk : Int).natAbs) (by decide)
        rw [← List.length_eq_zero_iff, ← HN6.out] at h; omega
      go_upto_region 8 with (go_at_call 30; (with_reducible refine (rdown_c _ _ (pa : Int) (gk : Int) _ HI7.out HI6.out (by omega) ?_ ?_).mono ?_); (have h1 := HLM.out; have h2 := dg_length_mono (b := 10) (by decide) HE.out.2.2.1; rw [Int.natAbs_natCast]; omega); (have h1 := HLM.out; have h2 := dg_length_mono (b := 10) (by decide) HE.out.2.2.2; rw [Int.natAbs_natCast]; omega); rintro e W4 ⟨u, rfl, hu, hbz⟩; obtain ⟨A10, n10, c10, b10, A11, n11, c11, b11, rfl⟩ := hu.form; have HU := Lib.hid hu.parts; have HB4 := Lib.hid hbz; clear hbz hu)
      have hB5 : Below W4.heap.size W4 (W4.alloc (.cells #[.slice A10 n10 c10, .bool b10, .slice A11 n11 c11, .bool b11] 42)) := (Below.refl _ _).alloc (Nat.le_refl _) _
      have hb10 : (W4.alloc (.cells #[.slice A10 n10 c10, .bool b10, .slice A11 n11 c11, .bool b11] 42)).heap[W4.heap.size]? = some (.cells #[.slice A10 n10 c10, .bool b10, .slice A11 n11 c11, .bool b11] 42 (0, 0)) := heap_alloc_new _ _
      obtain ⟨V4, hV4⟩ : ∃ V4, W4.alloc (.cells #[.slice A10 n10 c10, .bool b10, .slice A11 n11 c11, .bool b11] 42) = V4 := ⟨_, rfl⟩
      rw [hV4] at hB5 hb10 ⊢
      have hB6 := below_then' HB4.out hB5
      have HQ4 := Lib.hid (HU.out.1.below hB5)
      have HR4' := Lib.hid (HU.out.2.below hB5)
      have HX6 := Lib.hid (HX6.out.below hB6); have HX7 := Lib.hid (HX7.out.below hB6); have HX8 := Lib.hid (HX8.out.below hB6); have HX9 := Lib.hid (HX9.out.below hB6); have HX3 := Lib.hid (HX3.out.below hB6); have HX4 := Lib.hid (HX4.out.below hB6)
      have HI6 := Lib.hid (HI6.out.below hB6)
      have c60 := keep_cell hB6 c60; have c61 := keep_cell hB6 c61; have c70 := keep_cell hB6 c70; have c71 := keep_cell hB6 c71
      have hl10 : P9 < W4.heap.size := Nat.lt_of_lt_of_le hl9 HB4.out.size
      have HB := Lib.hid (below_then HB.out hB6 (by omega))
      obtain ⟨P10, hP10⟩ : ∃ P10, W4.heap.size = P10 := ⟨_, rfl⟩
      rw [hP10] at hb10 hl10 ⊢
      clear hV4 hB5 hB6 HB4 HU hP10 HI7 HI8 HI9 HI3 c80 c81 c90 c91 c30 c31
      obtain ⟨F1, hF1, HP1⟩ := rx_put HX7.out HI6.out
      have HP1 := Lib.hid HP1
      obtain ⟨F2, hF2, HP2⟩ := rx_put (HP1.out.rx P6 _ (by omega) HX6.out) (HP1.out.ri _ _ HR4'.out)
      have HP2 := Lib.hid HP2
      have f70 : V4.frozen? ⟨P7, 0, none⟩ = false := by obtain ⟨A, n, c, b, t, h, -⟩ := HX7.out; exact free_of_heap h 0
      have f71 : V4.frozen? ⟨P7, 1, none⟩ = false := by obtain ⟨A, n, c, b, t, h, -⟩ := HX7.out; exact free_of_heap h 1
      go_upto_region 9 with fail
      try rw [hF1]
      clear hF1 c70 c71 f70 f71 c60 c61
      have hx6 := HP1.out.rx P6 _ (by omega) HX6.out
      obtain ⟨B6, m6, d6, e6, t6, h6, -⟩ := hx6
      have c60 := box0 h6; have c61 := box1 h6; have f60 := free_of_heap h6 0; have f61 := free_of_heap h6 1
      have hb10' := (HP1.out.heap P10 (by omega)).trans hb10
      have p2 := cell_of_heap hb10' 2; have p3 := cell_of_heap hb10' 3
      simp at p2 p3
      clear h6 hb10'
      go_upto_region 10 with fail
      try rw [hF2]
      clear hF2 c60 c61 f60 f61 p2 p3
      have hb10' := (HP2.out.heap P10 (by omega)).trans ((HP1.out.heap P10 (by omega)).trans hb10)
      have p0 := cell_of_heap hb10' 0; have p1 := cell_of_heap hb10' 1
      simp at p0 p1
      have h8 := HP2.out.rx P8 _ (by omega) (HP1.out.rx P8 _ (by omega) HX8.out)
      have h9 := HP2.out.rx P9 _ (by omega) (HP1.out.rx P9 _ (by omega) HX9.out)
      have HX7 := Lib.hid (HP2.out.rx P7 _ (by omega) HP1.out.at_)
      have HX6 := Lib.hid HP2.out.at_
      have HX8 := Lib.hid h8; have HX9 := Lib.hid h9
      have HX3 := Lib.hid (HP2.out.rx (w.heap.size + 1) _ (by omega) (HP1.out.rx (w.heap.size + 1) _ (by omega) HX3.out))
      have HX4 := Lib.hid (HP2.out.rx (w.heap.size + 1 + 1) _ (by omega) (HP1.out.rx (w.heap.size + 1 + 1) _ (by omega) HX4.out))
      have HQ4 := Lib.hid (HP2.out.ri _ _ (HP1.out.ri _ _ HQ4.out))
      have HB := Lib.hid (HP2.out.bel _ _ (by omega) (HP1.out.bel _ _ (by omega) HB.out))
      have hs2 : P10 < F2.heap.size := (Array.getElem?_eq_some_iff.1 hb10').1
      obtain ⟨A8, n8, c8, b8, t8, h8, hi8⟩ := h8
      obtain ⟨A9, n9, c9, b9, t9, h9, hi9⟩ := h9
      have c80 := box0 h8; have c81 := box1 h8; have c90 := box0 h9; have c91 := box1 h9
      have HI8 := Lib.hid hi8; have HI9 := Lib.hid hi9
      have hbx := h9
      clear hb10' hb10 HP1 HP2 h8 h9 hi8 hi9 HI6 HR4'
      obtain ⟨Q, hQ⟩ : ∃ Q, (pa : Int).fdiv (gk : Int) = Q := ⟨_, rfl⟩
      have HQV : Hid (Ri F2 (.agg #[.slice A10 n10 c10, .bool b10]) Q) := by show Ri F2 _ Q; rw [← hQ]; exact HQ4.out
      have HQE := Lib.hid hQ
      clear hQ
      have HQ0 : Hid (Q = ((pa / gk : Nat) : Int)) := by show Q = _; rw [← HQE.out]; exact Int.ofNat_fdiv .. |>.symm
      have HE2 : Hid (zero.natAbs ≤ M ∧ (Q * zero).natAbs ≤ M ∧ Q.natAbs ≤ M ∧ one.natAbs ≤ M + 1) := by
        refine ⟨HE.out.1.zero_le HE.out.2.1, ?_, ?_, HE.out.1.one_⟩
        · rw [HQ0.out, Int.mul_comm]; exact HE.out.1.prod_le (by omega)
        · rw [HQ0.out, Int.natAbs_natCast]; exact Nat.le_trans (Nat.div_le_self _ _) HE.out.2.2.1
      have HLA : Hid (∀ k, k ≤ M + 1 → (dg 10 k).length ≤ 1000000) := fun k hk => by have h1 := len_succ hk; have h2 := HLM.out; omega
      have HL1 : Hid ((dg 10 Q.natAbs).length ≤ 1000000) := HLA.out _ (by have := HE2.out.2.2.1; omega)
      have HL2 : Hid ((dg 10 zero.natAbs).length ≤ 1000000) := HLA.out _ (by have := HE2.out.1; omega)
      have HL3 : Hid ((dg 10 one.natAbs).length ≤ 1000000) := HLA.out _ (by have := HE2.out.2.2.2; omega)
      have HL4 : Hid ((dg 10 (-(Q * zero)).natAbs).length ≤ 1000000) := HLA.out _ (by have := HE2.out.2.1; rw [Int.natAbs_neg]; omega)
      have hbl := Below.refl F2.heap.size F2
      have hs3 := Nat.le_refl F2.heap.size
      have HU1 := Lib.hid True.intro; have HU2 := Lib.hid True.intro
      have HSS : Hid (∀ w', Below F2.heap.size F2 w' → w'.cell? ⟨P9, 0, none⟩ = some (.slice A9 n9 c9) ∧ w'.cell? ⟨P9, 1, none⟩ = some (.bool b9) ∧ w'.cell? ⟨P10, 0, none⟩ = some (.slice A10 n10 c10) ∧ w'.cell? ⟨P10, 1, none⟩ = some (.bool b10) ∧ w'.cell? ⟨P8, 0, none⟩ = some (.slice A8 n8 c8) ∧ w'.cell? ⟨P8, 1, none⟩ = some (.bool b8) ∧ Below F2.heap.size F2 w') := fun w' h => ⟨keep_cell h c90, keep_cell h c91, keep_cell h p0, keep_cell h p1, keep_cell h c80, keep_cell h c81, h⟩
      go_region_held3 (fun w' => w'.cell? ⟨P9, 0, none⟩ = some (.slice A9 n9 c9) ∧ w'.cell? ⟨P9, 1, none⟩ = some (.bool b9) ∧ w'.cell? ⟨P10, 0, none⟩ = some (.slice A10 n10 c10) ∧ w'.cell? ⟨P10, 1, none⟩ = some (.bool b10) ∧ w'.cell? ⟨P8, 0, none⟩ = some (.slice A8 n8 c8) ∧ w'.cell? ⟨P8, 1, none⟩ = some (.bool b8) ∧ Below F2.heap.size F2 w')
        ((go_split_ands; (with_reducible refine HSS.out _ ?_); (repeat (first | (with_reducible assumption) | (with_reducible refine below_to ?_ hbz) | (with_reducible refine below_al ?_ _) | (with_reducible refine Below.drew ?_) | (with_reducible refine Below.setCell ?_ (by first | exact hs3 | exact Nat.le_refl _ | (simp; done) | (simp; omega)) _)))))
        (first
          | (go_at_call 26; (with_reducible refine (product_c _ _ Q zero _ (HQV.out.below ?_) (HI8.out.below ?_) HL1.out HL2.out).mono ?_); (go_split_ands; with_reducible assumption); (go_split_ands; with_reducible assumption); rintro e w' ⟨u, rfl, hu, hbz⟩; obtain ⟨A12, n12, c12, b12, rfl⟩ := hu.form; have HU1 := Lib.hid hu; (first | (with_reducible have hbx := heap_below hbx hbz) | (with_reducible have hbx := heap_below (nbh1 _ (.cells #[.slice none 0 0, .bool false] 32)) hbz) | (with_reducible have hbx := heap_below (heap_alloc_new _ (.cells #[.slice none 0 0, .bool false] 32)) hbz) | skip); have hs3 : F2.heap.size ≤ w'.heap.size := Nat.le_trans (by first | exact hs3 | (simp; done) | (simp; omega)) hbz.size; clear hu)
          | (go_at_call 81; (with_reducible refine (rminus_c _ (Q * zero) _ (HU1.out.below ?_)).mono ?_); (first | (with_reducible exact Below.refl _ _) | (with_reducible exact (Below.refl _ _).drew) | (with_reducible exact (Below.refl _ _).alloc (Nat.le_refl _) _) | (with_reducible exact ((Below.refl _ _).alloc (Nat.le_refl _) _).drew)); rintro e w' ⟨u, rfl, hu, hbz⟩; obtain ⟨A13, n13, c13, b13, rfl⟩ := hu.form; have HU2 := Lib.hid hu; (first | (with_reducible have hbx := heap_below hbx hbz) | (with_reducible have hbx := heap_below (nbh1 _ (.cells #[.slice none 0 0, .bool false] 32)) hbz) | (with_reducible have hbx := heap_below (heap_alloc_new _ (.cells #[.slice none 0 0, .bool false] 32)) hbz) | skip); have hs3 : F2.heap.size ≤ w'.heap.size := Nat.le_trans (by first | exact hs3 | (simp; done) | (simp; omega)) hbz.size; clear hu)
          | (go_at_call 47; (with_reducible refine (rsum_c _ _ one (-(Q * zero)) _ (HI9.out.below ?_) (HU2.out.below ?_) HL3.out HL4.out).mono ?_); (go_split_ands; with_reducible assumption); (first | (with_reducible exact Below.refl _ _) | (with_reducible exact (Below.refl _ _).drew) | (with_reducible exact (Below.refl _ _).alloc (Nat.le_refl _) _) | (with_reducible exact ((Below.refl _ _).alloc (Nat.le_refl _) _).drew)); rintro e w' ⟨u, rfl, hu, hbz⟩; obtain ⟨A14, n14, c14, b14, rfl⟩ := hu.form; have HU3 := Lib.hid hu; (first | (with_reducible have hbx := heap_below hbx hbz) | (with_reducible have hbx := heap_below (nbh1 _ (.cells #[.slice none 0 0, .bool false] 32)) hbz) | (with_reducible have hbx := heap_below (heap_alloc_new _ (.cells #[.slice none 0 0, .bool false] 32)) hbz) | skip); have hs3 : F2.heap.size ≤ w'.heap.size := Nat.le_trans (by first | exact hs3 | (simp; done) | (simp; omega)) hbz.size; go_split_ands; have HB9 := Lib.hid (below_to (show Below F2.heap.size F2 _ by assumption) hbz); clear hu)
          | ((fail_if_success (go_at_call 26)); (fail_if_success (go_at_call 81)); (fail_if_success (go_at_call 47)); have e0 := box0 hbx; have e1 := box1 hbx; have z0 := free_of_heap hbx 0; have z1 := free_of_heap hbx 1; go_simp))
      all_goals
        (first
          | (obtain ⟨F, hF, HPF⟩ := rx_put (rx_zero hbx) HU3.out; rw [hF])
          | (obtain ⟨F, hF, HPF⟩ := put_new 32 HU3.out; rw [hF]))
        clear hF
        have l8 := HPF.rx P8 _ (by omega) (HX8.out.below HB9.out)
        have l9 := HPF.rx P9 _ (by omega) (HX9.out.below HB9.out)
        have HX6 := Lib.hid (HPF.rx P6 _ (by omega) (HX6.out.below HB9.out))
        have HX7 := Lib.hid (HPF.rx P7 _ (by omega) (HX7.out.below HB9.out))
        have HX3 := Lib.hid (HPF.rx (w.heap.size + 1) _ (by omega) (HX3.out.below HB9.out))
        have HX4 := Lib.hid (HPF.rx (w.heap.size + 1 + 1) _ (by omega) (HX4.out.below HB9.out))
        have HX8 := Lib.hid l8; have HX9 := Lib.hid l9
        have HB := Lib.hid (HPF.bel _ _ (by omega) (below_then HB.out HB9.out (by omega)))
        have HXN := Lib.hid HPF.at_
        obtain ⟨A15, n15, c15, b15, t15, h15, hi15⟩ := l8
        obtain ⟨A16, n16, c16, b16, t16, h16, hi16⟩ := l9
        obtain ⟨A17, n17, c17, b17, t17, h17, hi17⟩ := HPF.at_
        obtain ⟨F3, hF3, HP3⟩ := rx_put HX9.out hi15
        have k80 := box0 h15; have k81 := box1 h15; have k90 := box0 h16; have k91 := box1 h16
        have g90 := free_of_heap h16 0; have g91 := free_of_heap h16 1
        have h17' := (HP3.heap _ (by omega)).trans h17
        have h15' := (HP3.heap P8 (by omega)).trans h15
        have q0 := box0 h17'; have q1 := box1 h17'
        have x80 := box0 h15'; have x81 := box1 h15'; have y80 := free_of_heap h15' 0; have y81 := free_of_heap h15' 1
        have hi17' := HP3.ri _ _ hi17
        obtain ⟨F4, hF4, HP4⟩ := rx_put (HP3.rx P8 _ (by omega) HX8.out) hi17'
        have HP3 := Lib.hid HP3; have HP4 := Lib.hid HP4
        have HN3 : Hid (P8 ≠ P9) := by show _ ≠ _; omega
        clear h15 h16 h17 h17' h15' hi15 hi16 hi17 hi17' HPF hbx c80 c81 c90 c91 p0 p1 hbl
        go_upto_region 12 with fail
        try rw [hF3]
        clear hF3 k80 k81 k90 k91 g90 g91
        go_wp2_with fail
        try rw [hF4]
        clear hF4 x80 x81 y80 y81 q0 q1
        go_roundg (pa % gk)
        case measure => exact Nat.mod_lt _ (by omega)
        case rel =>
          have h6 := HP4.out.rx P6 _ (by omega) (HP3.out.rx P6 _ (by omega) HX6.out)
          rw [show (pa : Int).fmod (gk : Int) = ((pa % gk : Nat) : Int) from (Int.ofNat_fmod ..).symm] at h6
          have h8 := HP4.out.at_
          have hst := HE.out.1.step (by omega) (by have := HE2.out.1; omega)
          rw [show one + -(zero * ((pa / gk : Nat) : Int)) = one + -(Q * zero) by rw [HQ0.out, Int.mul_comm]] at hst
          exact ⟨gk, zero, one + -(Q * zero), ⟨hst, by omega, HE.out.2.2.2, Nat.le_trans (Nat.le_of_lt (Nat.mod_lt _ (by omega))) HE.out.2.2.2⟩, h6, HP4.out.rx P7 _ (by omega) (HP3.out.rx P7 _ (by omega) HX7.out), h8, HP4.out.rx P9 _ (by omega) HP3.out.at_, HP4.out.rx (w.heap.size + 1) _ (by omega) (HP3.out.rx (w.heap.size + 1) _ (by omega) HX3.out), HP4.out.rx (w.heap.size + 1 + 1) _ (by omega) (HP3.out.rx (w.heap.size + 1 + 1) _ (by omega) HX4.out), HP4.out.bel _ _ (by omega) (HP3.out.bel _ _ (by omega) HB.out)⟩
end Go.Proofs.YtbjgpbdkofadiaaGreatDoor
