/- Package real: the exact product. -/
import Derived.Test.YtekbfommnmikbaaGreatDoorRealH
namespace Go.Proofs.YtekbfommnmikbaaGreatDoor
set_option linter.unusedVariables false
set_option linter.unusedSimpArgs false
open Go.RowKit Go.Shelf Go.Proofs
attribute [local go_sem ↓] Go.wp_at_zero Go.wp_at_succ

theorem bx4h (w : World) (a0 a1 a2 a3 : Array Value) (t0 t1 t2 t3 : TypeId) : ∃ W, (((w.alloc (.cells a0 t0)).alloc (.cells a1 t1)).alloc (.cells a2 t2)).alloc (.cells a3 t3) = W ∧ W.heap[w.heap.size]? = some (.cells a0 t0 (0, 0)) ∧ W.heap[w.heap.size + 1]? = some (.cells a1 t1 (0, 0)) ∧ W.heap[w.heap.size + 1 + 1]? = some (.cells a2 t2 (0, 0)) ∧ W.heap[w.heap.size + 1 + 1 + 1]? = some (.cells a3 t3 (0, 0)) ∧ Below w.heap.size w W ∧ W.heap.size = w.heap.size + 4 :=
  ⟨_, rfl, heap_old _ (heap_old _ (heap_old _ (heap_alloc_new _ _))), heap_old _ (heap_old _ (heap_new' _ _ _ (by simp))), heap_old _ (heap_new' _ _ _ (by simp)), heap_new' _ _ _ (by simp), ((((Below.refl _ _).alloc (Nat.le_refl _) _).alloc (by simp) _).alloc (by simp; omega) _).alloc (by simp; omega) _, by simp⟩

/-- One digit of the factor is entered. -/
theorem mul_digit (m d P : Int) : (if decide (m < 0) = true then -d else d) * vd (dg 10 m.natAbs).reverse * P = m * d * P := by
  rw [vd_dg]
  by_cases h : m < 0
  · rw [if_pos (decide_eq_true h)]
    have : ((m.natAbs : Nat) : Int) = -m := by omega
    rw [this]; grind
  · rw [if_neg (by simpa using h)]
    have : ((m.natAbs : Nat) : Int) = m := by omega
    rw [this]; grind
theorem prod_room {L : Nat} {xm xe ym ye : Int} (hx : RV xm.natAbs xe) (hy : RV ym.natAbs ye) {P : Nat} (hP : xe + ye + 222 = (P : Int)) (hL : 422 < L) : -(10 ^ L) < xm * (ym.natAbs : Int) * 10 ^ P ∧ xm * (ym.natAbs : Int) * 10 ^ P < 10 ^ L := by
  obtain ⟨a1, a2, a3⟩ := RV_abs hx
  obtain ⟨b1, b2, b3⟩ := RV_abs hy
  have h1 : (xm * (ym.natAbs : Int) * 10 ^ P).natAbs = xm.natAbs * ym.natAbs * 10 ^ P := by
    rw [Int.natAbs_mul, Int.natAbs_mul, Int.natAbs_pow]; rfl
  have h2 : xm.natAbs * ym.natAbs ≤ 1000000000000 * 1000000000000 := Nat.mul_le_mul (Nat.le_of_lt a1) (Nat.le_of_lt b1)
  have h3 : xm.natAbs * ym.natAbs * 10 ^ P ≤ 10 ^ (24 + P) := by rw [Nat.pow_add]; exact Nat.mul_le_mul_right _ h2
  have h4 : 10 ^ (24 + P) < 10 ^ L := Nat.pow_lt_pow_right (by decide) (by omega)
  have h5 : ((10 ^ L : Nat) : Int) = (10 : Int) ^ L := Int.natCast_pow 10 L
  rw [← h5]
  generalize (10 : Nat) ^ L = Q at *
  generalize 10 ^ (24 + P) = R at *
  omega
theorem RV_nd {m : Nat} {e : Int} (h : RV m e) : nd m = 0 ∨ nd m = 12 := by
  rcases h with ⟨rfl, -⟩ | ⟨h1, h2, -, -⟩
  · exact .inl nd_zero
  · exact .inr (nd_eq (k := 11) (by omega) (by omega))

set_option maxRecDepth 100000 in
set_option maxHeartbeats 4000000 in
theorem product_c (xm xe ym ye : Int) (w : World) (hx : RV xm.natAbs xe) (hy : RV ym.natAbs ye) (P : Nat) (hP : xe + ye + 222 = (P : Int)) :
    Calls Tryz.prog 119 #[.agg #[.int .i64 xm, .int .i64 xe], .agg #[.int .i64 ym, .int .i64 ye]] w fun en w' => ∃ v ds, en = .returned v ∧ Amt w' v (decide (xm < 0) != decide (ym < 0)) ds (-222) false ∧ InR 10 ds ∧ vd ds = ((xm.natAbs * ym.natAbs * 10 ^ P : Nat) : Int) ∧ ds.length = 430 ∧ Below w.heap.size w w' := by
  obtain ⟨W, hW, k0, k1, k2, k3, hbel, hsz⟩ := bx4h w #[.int .i64 xm, .int .i64 xe] #[.int .i64 ym, .int .i64 ye] #[.bool false, .slice none 0 0, .int .i64 0, .bool false] Tryz.zeroCells173 23 23 95 173
  have HC : Hid (Cols W (w.heap.size + 1 + 1 + 1) (List.replicate 430 0)) := by
    have h1 := Cols.zero (((w.alloc (.cells #[.int .i64 xm, .int .i64 xe] 23)).alloc (.cells #[.int .i64 ym, .int .i64 ye] 23)).alloc (.cells #[.bool false, .slice none 0 0, .int .i64 0, .bool false] 95))
    rw [hW] at h1
    have h2 : (((w.alloc (.cells #[.int .i64 xm, .int .i64 xe] 23)).alloc (.cells #[.int .i64 ym, .int .i64 ye] 23)).alloc (.cells #[.bool false, .slice none 0 0, .int .i64 0, .bool false] 95)).heap.size = w.heap.size + 1 + 1 + 1 := by simp
    rw [h2] at h1
    exact h1
  have HK0 := Lib.hid k0; have HK1 := Lib.hid k1; have HK2 := Lib.hid k2; have HBEL := Lib.hid hbel; have HSZ := Lib.hid hsz
  have HX := Lib.hid hx; have HY := Lib.hid hy; have HP := Lib.hid hP
  have c00 := cell_of_heap k0 0; have c01 := cell_of_heap k0 1
  simp at c00 c01
  have hx18 : xm.natAbs < 10 ^ 18 := by have := (RV_abs hx).1; omega
  have hy18 : ym.natAbs < 10 ^ 18 := by have := (RV_abs hy).1; omega
  have hy0 : -9223372036854775807 ≤ ym := by omega
  have hy1 : ym ≤ 9223372036854775807 := by omega
  have hzw : w.heap.size + 4 ≤ W.heap.size := by omega
  obtain ⟨s, hs⟩ : ∃ s, decide (xm < 0) = s := ⟨_, rfl⟩
  have HSX := Lib.hid hs
  rw [hs]
  obtain ⟨dx, hdx⟩ : ∃ dx, (dg 10 xm.natAbs).reverse = dx := ⟨_, rfl⟩
  have HDX := Lib.hid hdx
  obtain ⟨dy, hdy⟩ : ∃ dy, (dg 10 ym.natAbs).reverse = dy := ⟨_, rfl⟩
  have HDY := Lib.hid hdy
  clear k0 k1 k2 k3 hbel hsz hx hy hP hs hdx hdy
  go_enter Tryz.func119, Tryz.ntmps119
  go_upto_region 2 with fail
  go_upto_region 3 with (go_at_call 87; refine (amountOf_c xm xe _ hx18).mono ?_; rw [HSX.out, HDX.out]; rintro en W2 ⟨v, rfl, ⟨A9, c9, rfl, hc9, hm9, hr9⟩, hbz⟩; have HC9 := Lib.hid (And.intro hc9 hm9); have HR9 := Lib.hid hr9; have HB2 := Lib.hid hbz; clear hc9 hm9 hr9 hbz)
  obtain ⟨W3, hW3⟩ : ∃ W3, W2.alloc (.cells #[.bool s, .slice A9 dx.length c9, .int .i64 xe, .bool false] 95) = W3 := ⟨_, rfl⟩
  have hb3 : Below W.heap.size W W3 := by rw [← hW3]; exact HB2.out.alloc HB2.out.size _
  have ha3 : W3.heap[W2.heap.size]? = some (.cells #[.bool s, .slice A9 dx.length c9, .int .i64 xe, .bool false] 95 (0, 0)) := by rw [← hW3]; exact heap_alloc_new _ _
  have hr3 : Row .u8 W3 A9 dx := by rw [← hW3]; exact HR9.out.below ((Below.refl _ _).alloc (Nat.le_refl _) _)
  have hz3 : W3.heap.size = W2.heap.size + 1 := by rw [← hW3]; simp
  rw [hW3]
  have HB3 := Lib.hid hb3; have HA3 := Lib.hid ha3; have HR3 := Lib.hid hr3
  have hzz : w.heap.size + 4 ≤ W2.heap.size := Nat.le_trans hzw HB2.out.size
  have k1' := heapB hb3 HK1.out
  have c10 := cell_of_heap k1' 0; have c11 := cell_of_heap k1' 1
  simp at c10 c11
  clear hW3 hb3 ha3 hr3 k1' c00 c01
  go_upto_region 4 with (first
    | (go_at_call 100; refine (size_c ym _ hy0 hy1).mono ?_; rintro en w' ⟨rfl, rfl⟩)
    | (go_at_call 89; refine (digitsOf_c ym.natAbs _ hy18).mono ?_; rw [HDY.out]; rintro en W4 ⟨v, rfl, ⟨A8, c8, rfl, hc8, hm8, hr8⟩, hf8, hbz⟩; have HC8 := Lib.hid (And.intro hc8 hm8); have HR8 := Lib.hid hr8; have HB4 := Lib.hid hbz; clear hc8 hm8 hr8 hf8 hbz))
  obtain ⟨L, hL⟩ : ∃ L, dy.length = L := ⟨_, rfl⟩
  have HL := Lib.hid hL
  have HL12 : Hid (L = 0 ∨ L = 12) := by
    have h1 := RV_nd HY.out
    unfold nd at h1
    rw [← List.length_reverse, HDY.out, hL] at h1
    exact h1
  rw [hL] at HC8 ⊢
  have HC4 := Lib.hid (heapB HB4.out (heapB HB3.out HC.out))
  have HK4 : Hid (Kb (w.heap.size + 1 + 1 + 1) W3 W4) := Kb.of HB4.out
  have hz4 : W3.heap.size ≤ W4.heap.size := HB4.out.size
  have HA4 := Lib.hid (heapB HB4.out HA3.out)
  have HK14 := Lib.hid (heapB HB4.out (heapB HB3.out HK1.out))
  have HDX9 : Hid (∀ i : Nat, 0 ≤ dy[i]?.getD 0 ∧ dy[i]?.getD 0 < 10) := by
    have h1 := inR_dgR ym.natAbs
    rw [HDY.out] at h1
    intro i
    have := h1.at_ (by decide) i
    rw [List.getD_eq_getElem?_getD] at this
    exact ⟨this.1, this.2⟩
  clear hL
  go_loopg [18] L (fun g iv wr => ∃ (i : Nat) (t : List Int), iv = .int .i64 (i : Int) ∧ i + g = L ∧ Hid (Cols wr (w.heap.size + 1 + 1 + 1) t) ∧ Hid (t.length = 430) ∧ Hid (val 10 t = xm * vd (dy.take i) * 10 ^ (P + (L - i))) ∧ Hid (TB (972 * (i : Int)) t) ∧ Hid (Kb (w.heap.size + 1 + 1 + 1) W4 wr))
  case atStart => exact ⟨0, _, rfl, by omega, HC4.out, by show _ = _; simp, by show _ = _; rw [List.take_zero, vd_nil]; rw [Int.mul_zero, Int.zero_mul]; exact val_replicate 10 430, by show TB _ _; exact TB.zeros 430, Kb.refl _ _⟩
  case round =>
    obtain ⟨i, t, rfl, hi, HCt, HLt, HVt, HTt, HW⟩ := hrel
    have HI := Lib.hid hi
    have hzr : W4.heap.size ≤ wr.heap.size := HW.out.size
    by_cases hiL : i < L
    · obtain ⟨a, rfl, hcd⟩ := (HW.out.row HC4.out HR8.out) i (by rw [HL.out]; exact hiL)
      obtain ⟨d0, d9⟩ := HDX9.out i
      obtain ⟨d, hd⟩ : ∃ d, dy[i]?.getD 0 = d := ⟨_, rfl⟩
      rw [hd] at hcd d0 d9
      have HD := Lib.hid hd
      have hwd : IntKind.i64.wrap d = d := IntWalk.i64_in _ (by omega)
      have ha := HW.out.heap HA4.out (by omega)
      have a0 := cell_of_heap ha 0; have a1 := cell_of_heap ha 1; have a2 := cell_of_heap ha 2; have a3 := cell_of_heap ha 3
      have hy := HW.out.heap HK14.out (by omega)
      have b0 := cell_of_heap hy 0; have b1 := cell_of_heap hy 1
      simp at a0 a1 a2 a3 b0 b1
      clear hi hd ha hy
      go_upto_region 7 with fail
      obtain ⟨W5, hW5⟩ : ∃ W5, wr.alloc (.cells #[.bool s, .slice A9 dx.length c9, .int .i64 xe, .bool false] 95) = W5 := ⟨_, rfl⟩
      have hb5 : Below wr.heap.size wr W5 := by rw [← hW5]; exact (Below.refl _ _).alloc (Nat.le_refl _) _
      have ha5 : W5.heap[wr.heap.size]? = some (.cells #[.bool s, .slice A9 dx.length c9, .int .i64 xe, .bool false] 95 (0, 0)) := by rw [← hW5]; exact heap_alloc_new _ _
      have hz5 : W5.heap.size = wr.heap.size + 1 := by rw [← hW5]; simp
      rw [hW5]
      have e0 := cell_of_heap ha5 0; have e1 := cell_of_heap ha5 1; have e2 := cell_of_heap ha5 2; have e3 := cell_of_heap ha5 3; have f2 := free_of_heap ha5 2
      have b1 := keep_cell hb5 b1
      simp at e0 e1 e2 e3
      obtain ⟨-, x1, x2⟩ := RV_abs HX.out
      obtain ⟨-, y1, y2⟩ := RV_abs HY.out
      have HB5 := Lib.hid hb5; have HA5 := Lib.hid ha5
      obtain rfl : L = 12 := by rcases HL12.out with h | h <;> omega
      clear hW5 hb5 ha5 a0 a1 a2 a3 b0
      go_upto_region 8 with fail
      obtain ⟨E, hE⟩ : ∃ E, xe + (ye + 12 - 1 - (i : Int)) = E := ⟨_, rfl⟩
      rw [hE]
      have HE := Lib.hid hE
      obtain ⟨W6, hW6⟩ : ∃ W6, W5.setCell { block := wr.heap.size, off := 2 } (.int .i64 E) = W6 := ⟨_, rfl⟩
      have hb6 : Below wr.heap.size wr W6 := by rw [← hW6]; exact HB5.out.setCell (p := ⟨wr.heap.size, 2, none⟩) (Nat.le_refl _) _
      have ha6 := putB HA5.out 2 (.int .i64 E)
      have ho6 : ∀ g, g ≠ wr.heap.size → W6.heap[g]? = W5.heap[g]? := fun g hg => by rw [← hW6]; exact Below.heap_setCell _ _ _ _ hg
      rw [hW6] at ha6 ⊢
      simp at ha6
      have hr6 : Row .u8 W6 A9 dx := row_off ((HW.out.row HC4.out (HR3.out.below HB4.out)).below HB5.out) HA5.out amt_cells ho6
      have g0 := cell_of_heap ha6 0; have g1 := cell_of_heap ha6 1; have g2 := cell_of_heap ha6 2; have g3 := cell_of_heap ha6 3
      simp at g0 g1 g2 g3
      have HAM : Hid (Amt W6 (.agg #[.bool s, .slice A9 dx.length c9, .int .i64 E, .bool false]) s dx E false) := ⟨A9, c9, rfl, HC9.out.1, HC9.out.2, hr6⟩
      have HC6 := Lib.hid (heapB hb6 HCt.out)
      have HB6 := Lib.hid hb6
      obtain ⟨K, hK⟩ : ∃ K : Nat, P + (11 - i) = K := ⟨_, rfl⟩
      have HKK : Hid (E + 222 = (K : Int)) := by show _ = _; have := HP.out; omega
      have HKP : Hid (P + (12 - i) = K + 1 ∧ P + (12 - (i + 1)) = K) := by show _ ∧ _; omega
      have hdl : dx.length ≤ 12 := by have := dgR_len HX.out; rw [HDX.out] at this; exact this
      have hrng : Hid (K + dx.length ≤ 430) := by show _ ≤ _; have := HP.out; omega
      have hl81 : Hid (972 * (i : Int) + 81 * (dx.length : Int) ≤ 972 * ((i + 1 : Nat) : Int)) := by show _ ≤ _; omega
      have hIR : Hid (InR 10 dx) := by have := inR_dgR xm.natAbs; rw [HDX.out] at this; exact this
      have hz6 : w.heap.size + 1 + 1 + 1 < W6.heap.size := by have := hb6.size; omega
      clear hW6 hb6 ha6 ho6 hr6 hE hK e0 e1 e2 e3 f2
      go_wp2_with (go_at_call 173; refine (enter_c (w.heap.size + 1 + 1 + 1) t _ _ _ E false d K (972 * (i : Int)) _ hz6 HC6.out HLt.out HAM.out hIR.out HKK.out hrng.out (by omega) (by omega) HTt.out (by omega) (by omega)).mono ?_; rintro en w3 ⟨rfl, t', hc3, hl3, hv3, ht3, hk3⟩; have HC3 := Lib.hid hc3; have HL3 := Lib.hid hl3; have HV3 := Lib.hid hv3; have HT3 := Lib.hid ht3; have HK3 := Lib.hid hk3; clear hc3 hl3 hv3 ht3 hk3)
      go_roundg (gk - 1)
      case measure => have := HI.out; omega
      case rel =>
        refine ⟨i + 1, t', by go_num, by have := HI.out; omega, HC3.out, HL3.out, ?_, HT3.out.mono hl81.out, (HW.out.trans (Kb.of HB6.out)).trans HK3.out⟩
        show _ = _
        rw [HV3.out, HVt.out, ← HSX.out, ← HDX.out, mul_digit, HKP.out.1, HKP.out.2, drop_take' (by rw [HL.out]; exact hiL) HD.out, vd_snoc, Int.pow_succ]
        grind
    · obtain rfl : i = L := by omega
      clear hi
      have HVS : Hid (val 10 t = xm * (ym.natAbs : Int) * 10 ^ P) := by
        show _ = _
        rw [HVt.out, Nat.sub_self, Nat.add_zero, List.take_of_length_le (by rw [HL.out]; exact Nat.le_refl _), ← HDY.out, vd_dg]
      have HRN := Lib.hid (prod_room (L := 430) HX.out HY.out HP.out (by decide))
      rw [← HVS.out] at HRN
      have hz9 : w.heap.size + 1 + 1 + 1 < wr.heap.size := by omega
      go_upto_region 11 with (go_at_call 174; refine (total_c (w.heap.size + 1 + 1 + 1) t (972 * (i : Int)) _ hz9 HCt.out HLt.out HTt.out (by omega) (by have := HL12.out; omega) HRN.out.1 HRN.out.2).mono ?_; rw [HVS.out]; rintro en w3 ⟨v, ds, rfl, ⟨A7, c7, rfl, hc7, hm7, hr7⟩, hi7, hv7, hl7, hk7⟩; have HC7 := Lib.hid (And.intro hc7 hm7); have HR7 := Lib.hid hr7; have HD7 := Lib.hid (And.intro hi7 (And.intro hv7 hl7)); have HK7 := Lib.hid hk7; clear hc7 hm7 hr7 hi7 hv7 hl7 hk7)
      obtain ⟨s1, hs1⟩ : ∃ s1, decide (xm * (ym.natAbs : Int) * 10 ^ P < 0) = s1 := ⟨_, rfl⟩
      rw [hs1]
      obtain ⟨W8, hW8⟩ : ∃ W8, w3.alloc (.cells #[.bool s1, .slice A7 ds.length c7, .int .i64 (-222), .bool false] 95) = W8 := ⟨_, rfl⟩
      have hb8 : Below w3.heap.size w3 W8 := by rw [← hW8]; exact (Below.refl _ _).alloc (Nat.le_refl _) _
      have ha8 : W8.heap[w3.heap.size]? = some (.cells #[.bool s1, .slice A7 ds.length c7, .int .i64 (-222), .bool false] 95 (0, 0)) := by rw [← hW8]; exact heap_alloc_new _ _
      rw [hW8]
      have HKW := Lib.hid (HW.out.trans (HK7.out.trans (Kb.of hb8)))
      have hx8 := HKW.out.heap (heapB HB4.out (heapB HB3.out HK0.out)) (by omega)
      have hy8 := HKW.out.heap (heapB HB4.out (heapB HB3.out HK1.out)) (by omega)
      have hr8 := HKW.out.heap (heapB HB4.out (heapB HB3.out HK2.out)) (by omega)
      have m0 := cell_of_heap hx8 0; have n0 := cell_of_heap hy8 0
      have e0 := cell_of_heap ha8 0; have e1 := cell_of_heap ha8 1; have e2 := cell_of_heap ha8 2; have e3 := cell_of_heap ha8 3; have f0 := free_of_heap ha8 0
      simp at m0 n0 e0 e1 e2 e3
      have HA8 := Lib.hid ha8; have HR8 := Lib.hid hr8; have HB8 := Lib.hid hb8
      clear hW8 hb8 ha8 hx8 hy8 hr8 hs1
      go_upto_region 12 with fail
      obtain ⟨sg, hsg⟩ : ∃ sg, (!decide (xm < 0) == decide (ym < 0)) = sg := ⟨_, rfl⟩
      have HSG : Hid ((s != decide (ym < 0)) = sg) := by show _ = _; rw [← HSX.out]; exact hsg
      rw [hsg]
      obtain ⟨W9, hW9⟩ : ∃ W9, W8.setCell { block := w3.heap.size, off := 0 } (.bool sg) = W9 := ⟨_, rfl⟩
      have ha9 := putB HA8.out 0 (.bool sg)
      have ho9 : ∀ g, g ≠ w3.heap.size → W9.heap[g]? = W8.heap[g]? := fun g hg => by rw [← hW9]; exact Below.heap_setCell _ _ _ _ hg
      have hb9 : Below w3.heap.size w3 W9 := by rw [← hW9]; exact HB8.out.setCell (p := ⟨w3.heap.size, 0, none⟩) (Nat.le_refl _) _
      rw [hW9] at ha9 ⊢
      simp at ha9
      have hz3' : wr.heap.size ≤ w3.heap.size := HK7.out.size
      have hr9 : W9.heap[w.heap.size + 1 + 1]? = _ := (ho9 _ (by omega)).trans HR8.out
      have HRW9 := Lib.hid (row_off (HR7.out.below HB8.out) HA8.out amt_cells ho9)
      have g0 := cell_of_heap ha9 0; have g1 := cell_of_heap ha9 1; have g2 := cell_of_heap ha9 2; have g3 := cell_of_heap ha9 3
      have q0 := cell_of_heap hr9 0; have q1 := cell_of_heap hr9 1; have q2 := cell_of_heap hr9 2; have q3 := cell_of_heap hr9 3
      have y0 := free_of_heap hr9 0; have y1 := free_of_heap hr9 1; have y2 := free_of_heap hr9 2; have y3 := free_of_heap hr9 3
      simp at g0 g1 g2 g3 q0 q1 q2 q3
      have HQ := Lib.hid hr9; have HKE := Lib.hid (HW.out.trans (HK7.out.trans (Kb.of hb9)))
      clear hW9 ha9 ho9 hb9 hr9 hsg m0 n0 e0 e1 e2 e3 f0
      go_wp2_with fail
      obtain ⟨F, hF, hb, hk, ho⟩ := amt_put (s := sg) (n := ds.length) (c := c7) (A := A7) (e := -222) (more := false) HQ.out
      rw [hF]
      have r0 := cell_of_heap hb 0; have r1 := cell_of_heap hb 1; have r2 := cell_of_heap hb 2; have r3 := cell_of_heap hb 3
      simp at r0 r1 r2 r3
      refine bodyPost_ret (v := .agg #[.bool sg, .slice A7 ds.length c7, .int .i64 (-222), .bool false]) (by simp [results, Tryz.results119, go_sem, r0, r1, r2, r3]) rfl ?_
      rw [HSG.out]
      refine ⟨_, ds, rfl, ⟨A7, c7, rfl, HC7.out.1, HC7.out.2, row_off HRW9.out HQ.out amt_cells ho⟩, HD7.out.1, ?_, HD7.out.2.2, hk _ _ (by omega) ?_⟩
      · rw [HD7.out.2.1, Int.natAbs_mul, Int.natAbs_mul, Int.natAbs_pow]; rfl
      · have h1 : Below w.heap.size w W4 := HBEL.out.trans ((HB3.out.mono (by omega)).trans (HB4.out.mono (by omega)))
        exact h1.trans ((HKE.out.below (by omega)).mono (by omega))
end Go.Proofs.YtekbfommnmikbaaGreatDoor
