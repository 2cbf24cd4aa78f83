/- The reference's Gcd: the walk. -/
import Derived.Test.YtbjgpbdkofadiaaGreatDoorRefQ
import Derived.Test.YtbjgpbdkofadiaaGreatDoorRefR
import Derived.Deep.DrawnRows
namespace Go.Proofs.YtbjgpbdkofadiaaGreatDoor
set_option linter.unusedVariables false
set_option linter.unusedSimpArgs false
open Go.RowKit Go.Shelf
attribute [local go_sem ↓] Go.wp_at_zero Go.wp_at_succ

/-- What Gcd returns. -/
def RGcdP (x y : Int) (w : World) (e : Ending) (w' : World) : Prop := ∃ v X Y, e = .returned v ∧ Bz w' v (Int.gcd x y) X Y ∧ GcdP x y (Int.gcd x y) X Y ∧ Below w.heap.size w w'
theorem six_cells {w : World} {g : Nat} {x0 x1 x2 x3 x4 x5 : Value} {t : TypeId} (h : w.heap[g]? = some (.cells #[x0, x1, x2, x3, x4, x5] t (0, 0))) :
    w.cell? ⟨g, 0, none⟩ = some x0 ∧ w.cell? ⟨g, 1, none⟩ = some x1 ∧ w.cell? ⟨g, 2, none⟩ = some x2 ∧ w.cell? ⟨g, 3, none⟩ = some x3 ∧ w.cell? ⟨g, 4, none⟩ = some x4 ∧ w.cell? ⟨g, 5, none⟩ = some x5 :=
  ⟨cell_of_heap h 0, cell_of_heap h 1, cell_of_heap h 2, cell_of_heap h 3, cell_of_heap h 4, cell_of_heap h 5⟩
theorem rgcdP_zero {x y : Int} (hy : y = 0) : GcdP x y (Int.gcd x y) x.sign 0 := by
  subst hy
  refine ⟨rfl, ?_, fun h => absurd rfl h, fun h => absurd rfl h, fun _ => ⟨rfl, rfl⟩, .inr (by decide)⟩
  rw [Int.mul_zero, Int.add_zero, Int.gcd_zero_right]
  rcases Int.lt_trichotomy x 0 with h | h | h
  · rw [Int.sign_eq_neg_one_of_neg h]; omega
  · subst h; rfl
  · rw [Int.sign_eq_one_of_pos h]; omega
theorem ri_sign_one {w : World} {g : Nat} {x : Int} (hx : x ≠ 0) (h : w.cell? ⟨g, 0, none⟩ = some (.int .i64 1)) : Ri w (.agg #[.slice (some ⟨g, 0, none⟩) 1 1, .bool (decide (x < 0))]) x.sign := by
  have hd := dg_lit1 (d := 1) (by decide) (by decide) h (Nat.le_refl 1) (by decide)
  rcases Int.lt_or_gt_of_ne hx with h | h
  · refine ⟨_, by rw [Int.sign_eq_neg_one_of_neg h, decide_eq_true h]; rfl, ?_⟩
    rw [Int.sign_eq_neg_one_of_neg h]; exact hd
  · refine ⟨_, by rw [Int.sign_eq_one_of_pos h, decide_eq_false (by omega)]; rfl, ?_⟩
    rw [Int.sign_eq_one_of_pos h]; exact hd

set_option maxRecDepth 100000 in
set_option maxHeartbeats 4000000 in
theorem rgcd_zero (v1 v2 : Value) (x y : Int) (w : World) (h1 : Ri w v1 x) (h2 : Ri w v2 y) (hy : y = 0) (hm : (dg 10 x.natAbs).length ≤ 400000) (hn : (dg 10 y.natAbs).length ≤ 400000) :
    Calls Tryz.prog 35 #[v1, v2] w (RGcdP x y w) := by
  obtain ⟨A1, n1, c1, bx, rfl⟩ := h1.form
  obtain ⟨A2, n2, c2, by_, rfl⟩ := h2.form
  obtain ⟨hn1, hb1⟩ := ri_parts h1
  obtain ⟨hn2, hb2⟩ := ri_parts h2
  obtain ⟨p1, e1, hp1⟩ := h1
  obtain ⟨p2, e2, hp2⟩ := h2
  have hd1 : Dg 10 w (.slice A1 n1 c1) x.natAbs := by obtain ⟨e, -⟩ := (by simpa using e1 : _ ∧ _); rw [e]; exact hp1
  have hd2 : Dg 10 w (.slice A2 n2 c2) y.natAbs := by obtain ⟨e, -⟩ := (by simpa using e2 : _ ∧ _); rw [e]; exact hp2
  obtain ⟨W, hW, hh0, hh1, hh2, hbel, hsz⟩ := boxes3h w #[.slice A1 n1 c1, .bool bx] #[.slice A2 n2 c2, .bool by_] #[.slice none 0 0, .bool false, .slice none 0 0, .bool false, .slice none 0 0, .bool false] 32 32 51
  have c00 := box0 hh0; have c01 := box1 hh0; have c10 := box0 hh1; have c11 := box1 hh1
  have HD1 := Lib.hid (hd1.below hbel.to); have HD2 := Lib.hid (hd2.below hbel.to)
  have HH2 := Lib.hid hh2
  have HM := Lib.hid (And.intro (show (dg 10 x.natAbs).length ≤ 999999 by omega) (show (dg 10 y.natAbs).length ≤ 999999 by omega))
  have HBEL := Lib.hid hbel.to; have HSZ := Lib.hid hsz; have HB1 := Lib.hid hb1; have HN1 := Lib.hid hn1
  obtain rfl : n2 = 0 := by rw [hn2, hy, Int.natAbs_zero, dg_zero]; rfl
  have HY := Lib.hid hy
  clear hh0 hh1 hh2 hbel hsz e1 e2 hp1 hp2 hd1 hd2 hm hn hb1 hb2 hn1 hn2 hy
  go_enter Tryz.func35, Tryz.ntmps35
  go_upto_region 2 with (go_at_call 79; (with_reducible refine (rgcd_nat_c _ _ x.natAbs y.natAbs _ HD1.out HD2.out HM.out.1 HM.out.2).mono ?_); rintro e W2 ⟨u, rfl, hu, hbz⟩; obtain ⟨A5, n5, c5, rfl⟩ := hu.form; have HU := Lib.hid hu; have HB2 := Lib.hid hbz; clear hu hbz)
  have k0 : Below W2.heap.size W2 (W2.alloc (.cells #[.slice A5 n5 c5, .bool false] 32)) := (Below.refl _ _).alloc (Nat.le_refl _) _
  have hb5 : (W2.alloc (.cells #[.slice A5 n5 c5, .bool false] 32)).heap[W2.heap.size]? = some (.cells #[.slice A5 n5 c5, .bool false] 32 (0, 0)) := heap_alloc_new _ _
  obtain ⟨V, hV⟩ : ∃ V, W2.alloc (.cells #[.slice A5 n5 c5, .bool false] 32) = V := ⟨_, rfl⟩
  rw [hV] at k0 hb5 ⊢
  have k1 := below_then' HB2.out k0
  have HBV := Lib.hid (below_then' HBEL.out k1)
  have hh4 := heap_below HH2.out k1
  have HGV : Hid (Ri V (.agg #[.slice A5 n5 c5, .bool false]) (Int.gcd x y : Int)) := ⟨_, by rw [decide_eq_false (by omega)], by rw [Int.natAbs_natCast]; exact HU.out.below k0⟩
  have c00 := keep_cell k1 c00; have c01 := keep_cell k1 c01; have c10 := keep_cell k1 c10; have c11 := keep_cell k1 c11
  obtain ⟨P5, hP5⟩ : ∃ P5, W2.heap.size = P5 := ⟨_, rfl⟩
  rw [hP5] at hb5 ⊢
  have hq : w.heap.size + 1 + 1 < P5 := by rw [← hP5]; have := HB2.out.size; have := HSZ.out; omega
  have c50 := box0 hb5; have c51 := box1 hb5
  have HH4 := Lib.hid hh4; have HH5 := Lib.hid hb5
  have a50 := fun o => keep_cell ((Below.refl V.heap.size V).alloc (Nat.le_refl _) o) c50
  have a51 := fun o => keep_cell ((Below.refl V.heap.size V).alloc (Nat.le_refl _) o) c51
  have a00 := fun o => keep_cell ((Below.refl V.heap.size V).alloc (Nat.le_refl _) o) c00
  have a01 := fun o => keep_cell ((Below.refl V.heap.size V).alloc (Nat.le_refl _) o) c01
  have hlV : P5 < V.heap.size := (Array.getElem?_eq_some_iff.1 hb5).1
  clear k0 k1 hV hP5 hh4 hb5 HU HB2 HD1 HD2 HH2
  have x40 := fun o => heap_below HH4.out ((Below.refl V.heap.size V).alloc (Nat.le_refl _) o)
  have HX4 := Lib.hid x40
  by_cases hx : x = 0
  · obtain rfl : n1 = 0 := by rw [HN1.out, hx, Int.natAbs_zero, dg_zero]; rfl
    have q0 := fun o => cell_of_heap (x40 o) 0; have q1 := fun o => cell_of_heap (x40 o) 1; have q2 := fun o => cell_of_heap (x40 o) 2; have q3 := fun o => cell_of_heap (x40 o) 3; have q4 := fun o => cell_of_heap (x40 o) 4; have q5 := fun o => cell_of_heap (x40 o) 5
    have f0 := fun o => free_of_heap (x40 o) 0; have f1 := fun o => free_of_heap (x40 o) 1; have f2 := fun o => free_of_heap (x40 o) 2; have f3 := fun o => free_of_heap (x40 o) 3; have f4 := fun o => free_of_heap (x40 o) 4; have f5 := fun o => free_of_heap (x40 o) 5
    simp at q0 q1 q2 q3 q4 q5
    clear x40
    go_wp2_with fail
    have hG := HGV.out.below ((Below.refl V.heap.size V).alloc (Nat.le_refl _) (.cells #[.slice none 0 0, .bool false] 32))
    have hZ : Ri (V.alloc (.cells #[.slice none 0 0, .bool false] 32)) (.agg #[.slice none 0 0, .bool false]) 0 := ⟨_, rfl, Dg.zero (by decide) _⟩
    obtain ⟨F, hF, hbF, hBz, hbf⟩ := bz_put hG hZ hZ (HX4.out _)
    try rw [hF]
    have r0 := cell_of_heap hbF 0; have r1 := cell_of_heap hbF 1; have r2 := cell_of_heap hbF 2; have r3 := cell_of_heap hbF 3; have r4 := cell_of_heap hbF 4; have r5 := cell_of_heap hbF 5
    simp at r0 r1 r2 r3 r4 r5
    refine bodyPost_ret (v := .agg #[.slice A5 n5 c5, .bool false, .slice none 0 0, .bool false, .slice none 0 0, .bool false]) (by simp [results, Tryz.results35, go_sem, r0, r1, r2, r3, r4, r5]) rfl ?_
    have hP := rgcdP_zero (x := x) HY.out
    rw [show x.sign = 0 by rw [hx]; rfl] at hP
    exact ⟨_, _, _, rfl, hBz, hP, hbf _ _ (by omega) (HBV.out.alloc (by omega) _)⟩
  · have hnp : 0 < n1 := by
      have h := dg_eq_nil (b := 10) (n := x.natAbs) (by decide)
      rw [← List.length_eq_zero_iff, ← HN1.out] at h; omega
    have b00 := fun o o' => keep_cell ((Below.refl (V.alloc o).heap.size (V.alloc o)).alloc (Nat.le_refl _) o') (a00 o)
    have b01 := fun o o' => keep_cell ((Below.refl (V.alloc o).heap.size (V.alloc o)).alloc (Nat.le_refl _) o') (a01 o)
    clear x40
    go_upto_region 6 with fail
    have k1 : Below V.heap.size V ((V.alloc (.cells #[.slice (some ⟨V.heap.size + 1, 0, none⟩) 1 1, .bool bx] 32)).alloc (.cells #[.int .i64 1] 3)) := ((Below.refl _ _).alloc (Nat.le_refl _) _).alloc (by simp) _
    have h6 : ((V.alloc (.cells #[.slice (some ⟨V.heap.size + 1, 0, none⟩) 1 1, .bool bx] 32)).alloc (.cells #[.int .i64 1] 3)).heap[V.heap.size]? = some (.cells #[.slice (some ⟨V.heap.size + 1, 0, none⟩) 1 1, .bool bx] 32 (0, 0)) := heap_old _ (heap_alloc_new _ _)
    have hl1 : ((V.alloc (.cells #[.slice (some ⟨V.heap.size + 1, 0, none⟩) 1 1, .bool bx] 32)).alloc (.cells #[.int .i64 1] 3)).cell? ⟨V.heap.size + 1, 0, none⟩ = some (.int .i64 1) := by
      have h := new_cell (V.alloc (.cells #[.slice (some ⟨V.heap.size + 1, 0, none⟩) 1 1, .bool bx] 32)) #[.int .i64 1] 3 0
      simp at h ⊢
    obtain ⟨V6, hV6⟩ : ∃ V6, ((V.alloc (.cells #[.slice (some ⟨V.heap.size + 1, 0, none⟩) 1 1, .bool bx] 32)).alloc (.cells #[.int .i64 1] 3)) = V6 := ⟨_, rfl⟩
    rw [hV6] at k1 h6 hl1 ⊢
    have hRX := ri_sign_one hx hl1
    rw [← HB1.out] at hRX
    have hG := HGV.out.below k1
    have hZ : Ri V6 (.agg #[.slice none 0 0, .bool false]) 0 := ⟨_, rfl, Dg.zero (by decide) _⟩
    have hh4 := heap_below HH4.out k1
    obtain ⟨F, hF, hbF, hBz, hbf⟩ := bz_put hG hRX hZ hh4
    have HbF := Lib.hid hbF; have HBz := Lib.hid hBz; have Hbf := Lib.hid hbf
    have HBT := Lib.hid (below_then HBV.out k1 (by omega))
    have c50 := keep_cell k1 c50; have c51 := keep_cell k1 c51
    have s0 := box0 h6; have s1 := box1 h6
    have q0 := cell_of_heap hh4 0; have q1 := cell_of_heap hh4 1; have q2 := cell_of_heap hh4 2; have q3 := cell_of_heap hh4 3; have q4 := cell_of_heap hh4 4; have q5 := cell_of_heap hh4 5
    have f0 := free_of_heap hh4 0; have f1 := free_of_heap hh4 1; have f2 := free_of_heap hh4 2; have f3 := free_of_heap hh4 3; have f4 := free_of_heap hh4 4; have f5 := free_of_heap hh4 5
    simp at q0 q1 q2 q3 q4 q5
    clear hV6 k1 h6 hl1 hRX hG hZ hh4 hbF hBz hbf a00 a01 a50 a51 b00 b01 c00 c01 c10 c11
    go_wp2_with fail
    try rw [hF]
    have r0 := cell_of_heap HbF.out 0; have r1 := cell_of_heap HbF.out 1; have r2 := cell_of_heap HbF.out 2; have r3 := cell_of_heap HbF.out 3; have r4 := cell_of_heap HbF.out 4; have r5 := cell_of_heap HbF.out 5
    simp at r0 r1 r2 r3 r4 r5
    refine bodyPost_ret (v := .agg #[.slice A5 n5 c5, .bool false, .slice (some ⟨V.heap.size + 1, 0, none⟩) 1 1, .bool bx, .slice none 0 0, .bool false]) (by simp [results, Tryz.results35, go_sem, r0, r1, r2, r3, r4, r5]) rfl ?_
    exact ⟨_, _, _, rfl, HBz.out, rgcdP_zero HY.out, Hbf.out _ _ (by omega) HBT.out⟩
set_option maxRecDepth 100000 in
set_option maxHeartbeats 4000000 in
theorem rgcd_ne (v1 v2 : Value) (x y : Int) (w : World) (h1 : Ri w v1 x) (h2 : Ri w v2 y) (hy : y ≠ 0) (hm : (dg 10 x.natAbs).length ≤ 400000) (hn : (dg 10 y.natAbs).length ≤ 400000) :
    Calls Tryz.prog 35 #[v1, v2] w (RGcdP x y w) := by
  obtain ⟨A1, n1, c1, bx, rfl⟩ := h1.form
  obtain ⟨A2, n2, c2, by_, rfl⟩ := h2.form
  obtain ⟨hn1, hb1⟩ := ri_parts h1
  obtain ⟨hn2, hb2⟩ := ri_parts h2
  obtain ⟨p1, e1, hp1⟩ := h1
  obtain ⟨p2, e2, hp2⟩ := h2
  have hd1 : Dg 10 w (.slice A1 n1 c1) x.natAbs := by obtain ⟨e, -⟩ := (by simpa using e1 : _ ∧ _); rw [e]; exact hp1
  have hd2 : Dg 10 w (.slice A2 n2 c2) y.natAbs := by obtain ⟨e, -⟩ := (by simpa using e2 : _ ∧ _); rw [e]; exact hp2
  obtain ⟨W, hW, hh0, hh1, hh2, hbel, hsz⟩ := boxes3h w #[.slice A1 n1 c1, .bool bx] #[.slice A2 n2 c2, .bool by_] #[.slice none 0 0, .bool false, .slice none 0 0, .bool false, .slice none 0 0, .bool false] 32 32 51
  have c00 := box0 hh0; have c01 := box1 hh0; have c10 := box0 hh1; have c11 := box1 hh1
  have HD1 := Lib.hid (hd1.below hbel.to); have HD2 := Lib.hid (hd2.below hbel.to)
  have HH2 := Lib.hid hh2
  have HM4 := Lib.hid (And.intro hm hn)
  have HM := Lib.hid (And.intro (show (dg 10 x.natAbs).length ≤ 999999 by omega) (show (dg 10 y.natAbs).length ≤ 999999 by omega))
  have HBEL := Lib.hid hbel.to; have HSZ := Lib.hid hsz; have HB1 := Lib.hid hb1; have HN1 := Lib.hid hn1
  have HN2 := Lib.hid hn2; have HB2' := Lib.hid hb2
  have HY := Lib.hid hy
  clear hh0 hh1 hh2 hbel hsz e1 e2 hp1 hp2 hd1 hd2 hm hn hb1 hb2 hn1 hn2 hy
  have hfa := fld_a
  have hfn := fld_n
  go_enter Tryz.func35, Tryz.ntmps35
  go_upto_region 2 with (go_at_call 79; (with_reducible refine (rgcd_nat_c _ _ x.natAbs y.natAbs _ HD1.out HD2.out HM.out.1 HM.out.2).mono ?_); rintro e W2 ⟨u, rfl, hu, hbz⟩; obtain ⟨A5, n5, c5, rfl⟩ := hu.form; have HU := Lib.hid hu; have HB2 := Lib.hid hbz; clear hu hbz)
  have k0 : Below W2.heap.size W2 (W2.alloc (.cells #[.slice A5 n5 c5, .bool false] 32)) := (Below.refl _ _).alloc (Nat.le_refl _) _
  have hb5 : (W2.alloc (.cells #[.slice A5 n5 c5, .bool false] 32)).heap[W2.heap.size]? = some (.cells #[.slice A5 n5 c5, .bool false] 32 (0, 0)) := heap_alloc_new _ _
  obtain ⟨V, hV⟩ : ∃ V, W2.alloc (.cells #[.slice A5 n5 c5, .bool false] 32) = V := ⟨_, rfl⟩
  rw [hV] at k0 hb5 ⊢
  have k1 := below_then' HB2.out k0
  have HBV := Lib.hid (below_then' HBEL.out k1)
  have hh4 := heap_below HH2.out k1
  have HGV : Hid (Ri V (.agg #[.slice A5 n5 c5, .bool false]) (Int.gcd x y : Int)) := ⟨_, by rw [decide_eq_false (by omega)], by rw [Int.natAbs_natCast]; exact HU.out.below k0⟩
  have c00 := keep_cell k1 c00; have c01 := keep_cell k1 c01; have c10 := keep_cell k1 c10; have c11 := keep_cell k1 c11
  obtain ⟨P5, hP5⟩ : ∃ P5, W2.heap.size = P5 := ⟨_, rfl⟩
  rw [hP5] at hb5 ⊢
  have hq : w.heap.size + 1 + 1 < P5 := by rw [← hP5]; have := HB2.out.size; have := HSZ.out; omega
  have c50 := box0 hb5; have c51 := box1 hb5
  have HH4 := Lib.hid hh4; have HH5 := Lib.hid hb5
  have hlV : P5 < V.heap.size := (Array.getElem?_eq_some_iff.1 hb5).1
  have HXV : Hid (Ri V (.agg #[.slice A1 n1 c1, .bool bx]) x) := ⟨_, by rw [HB1.out], HD1.out.below k1⟩
  have HYV : Hid (Ri V (.agg #[.slice A2 n2 c2, .bool by_]) y) := ⟨_, by rw [HB2'.out], HD2.out.below k1⟩
  have hnp : ((n2 : Int) == 0) = false := by rw [HN2.out]; exact len_ne HY.out
  clear k0 k1 hV hP5 hh4 hb5 HU HB2 HD1 HD2 HH2
  obtain ⟨G, hG⟩ : ∃ G, Int.gcd x y = G := ⟨_, rfl⟩
  have HGE := Lib.hid hG
  have hGp : 0 < G := by rw [← hG]; exact Nat.gcd_pos_of_pos_right _ (by have := HY.out; omega)
  have HGP : Hid ((G : Int) ≠ 0) := by show _ ≠ _; omega
  have hGy : G ≤ y.natAbs := by rw [← hG]; exact Nat.le_of_dvd (by have := HY.out; omega) (Nat.gcd_dvd_right _ _)
  have HLG : Hid ((dg 10 (G : Int).natAbs).length ≤ 400000) := by show _ ≤ _; rw [Int.natAbs_natCast]; exact Nat.le_trans (dg_length_mono (by decide) hGy) HM4.out.2
  rw [hG] at HGV
  have HLY1 : Hid ((dg 10 y.natAbs).length ≤ 1000000) := by have := HM4.out.2; show _ ≤ _; omega
  have HLX1 : Hid ((dg 10 x.natAbs).length ≤ 1000000) := by have := HM4.out.1; show _ ≤ _; omega
  have HLG1 : Hid ((dg 10 (G : Int).natAbs).length ≤ 999999) := by have := HLG.out; show _ ≤ _; omega
  clear hG hGy
  go_upto_region 8 with (go_at_call 29; (with_reducible refine (rcut_c _ _ y (G : Int) _ HYV.out HGV.out HGP.out HLY1.out HLG1.out).mono ?_); rintro e W3 ⟨u, rfl, hu, hbz⟩; obtain ⟨A7, n7, c7, b7, A8, n8, c8, b8, rfl⟩ := hu.form; have HU := Lib.hid hu.parts; have HB3 := Lib.hid hbz; clear hbz hu)
  have k0 : Below W3.heap.size W3 (W3.alloc (.cells #[.slice A7 n7 c7, .bool false] 32)) := (Below.refl _ _).alloc (Nat.le_refl _) _
  have hb7 : (W3.alloc (.cells #[.slice A7 n7 c7, .bool false] 32)).heap[W3.heap.size]? = some (.cells #[.slice A7 n7 c7, .bool false] 32 (0, 0)) := heap_alloc_new _ _
  obtain ⟨V7, hV7⟩ : ∃ V7, W3.alloc (.cells #[.slice A7 n7 c7, .bool false] 32) = V7 := ⟨_, rfl⟩
  rw [hV7] at k0 hb7 ⊢
  have k1 := below_then' HB3.out k0
  obtain ⟨M, hM⟩ : ∃ M, y.natAbs / G = M := ⟨_, rfl⟩
  have HMV : Hid (Ri V7 (.agg #[.slice A7 n7 c7, .bool false]) (M : Int)) := by
    obtain ⟨p, e, hp⟩ := HU.out.1
    simp at e
    refine ⟨p, by rw [e.1, decide_eq_false (by omega)], ?_⟩
    rw [Int.natAbs_natCast, ← hM]
    rw [Int.natAbs_tdiv, Int.natAbs_natCast] at hp
    exact hp.below k0
  have HXV := Lib.hid (HXV.out.below k1); have HYV := Lib.hid (HYV.out.below k1); have HGV := Lib.hid (HGV.out.below k1)
  have c00 := keep_cell k1 c00; have c01 := keep_cell k1 c01; have c10 := keep_cell k1 c10; have c11 := keep_cell k1 c11; have c50 := keep_cell k1 c50; have c51 := keep_cell k1 c51
  have HBV := Lib.hid (below_then HBV.out k1 (by omega))
  have HH4 := Lib.hid (heap_below HH4.out k1)
  obtain ⟨P7, hP7⟩ : ∃ P7, W3.heap.size = P7 := ⟨_, rfl⟩
  rw [hP7] at hb7 ⊢
  have c70 := box0 hb7; have c71 := box1 hb7
  have hl7 : P5 < V7.heap.size := Nat.lt_of_lt_of_le hlV k1.size
  have hMp : 0 < M := by rw [← hM, ← HGE.out]; exact (gcd_quo HY.out).1
  have HMP : Hid ((0 : Int) < (M : Int)) := by show (0 : Int) < _; omega
  have HCO : Hid (Int.gcd (x.tdiv (G : Int)) (M : Int) = 1) := by show _ = _; rw [← hM, ← HGE.out]; exact gcd_cop HY.out
  have HLM : Hid ((dg 10 (M : Int).natAbs).length ≤ 900000) := by show _ ≤ _; rw [Int.natAbs_natCast, ← hM]; exact Nat.le_trans (dg_length_mono (by decide) (Nat.div_le_self _ _)) (Nat.le_trans HM4.out.2 (by decide))
  have HLQ : Hid ((dg 10 (x.tdiv (G : Int)).natAbs).length ≤ 900000) := by show _ ≤ _; rw [Int.natAbs_tdiv]; exact Nat.le_trans (dg_length_mono (by decide) (Nat.div_le_self _ _)) (Nat.le_trans HM4.out.1 (by decide))
  have HMM := Lib.hid hM
  have hbx := hb7
  clear k0 k1 hV7 hP7 hb7 HU HB3 hM hMp hlV
  go_cut [8] from 8 to 57 (fun p8 wx => ∃ g8 X, p8 = .pointer (some ⟨g8, 0, none⟩) ∧ V7.heap.size ≤ g8 ∧ Hid (Rx wx g8 X) ∧ Hid (InvP (x.tdiv (G : Int)) (M : Int) X) ∧ Hid (Below V7.heap.size V7 wx))
  case first =>
    have HSS : Hid (∀ w', Below V7.heap.size V7 w' → w'.cell? ⟨w.heap.size, 0, none⟩ = some (.slice A1 n1 c1) ∧ w'.cell? ⟨w.heap.size, 1, none⟩ = some (.bool bx) ∧ w'.cell? ⟨P5, 0, none⟩ = some (.slice A5 n5 c5) ∧ w'.cell? ⟨P5, 1, none⟩ = some (.bool false) ∧ w'.cell? ⟨P7, 0, none⟩ = some (.slice A7 n7 c7) ∧ w'.cell? ⟨P7, 1, none⟩ = some (.bool false) ∧ Below V7.heap.size V7 w') := fun w' h => ⟨keep_cell h c00, keep_cell h c01, keep_cell h c50, keep_cell h c51, keep_cell h c70, keep_cell h c71, h⟩
    have hbl := Below.refl V7.heap.size V7
    have hs3 := Nat.le_refl V7.heap.size
    have HU1 := Lib.hid True.intro
    go_region_held3 (fun w' => w'.cell? ⟨w.heap.size, 0, none⟩ = some (.slice A1 n1 c1) ∧ w'.cell? ⟨w.heap.size, 1, none⟩ = some (.bool bx) ∧ w'.cell? ⟨P5, 0, none⟩ = some (.slice A5 n5 c5) ∧ w'.cell? ⟨P5, 1, none⟩ = some (.bool false) ∧ w'.cell? ⟨P7, 0, none⟩ = some (.slice A7 n7 c7) ∧ w'.cell? ⟨P7, 1, none⟩ = some (.bool false) ∧ Below V7.heap.size V7 w')
      ((go_split_ands; (with_reducible refine HSS.out _ ?_); (repeat (first | (with_reducible assumption) | (with_reducible refine below_to ?_ hbz) | (with_reducible refine below_al ?_ _) | (with_reducible refine Below.drew ?_) | (with_reducible refine Below.setCell ?_ (by first | exact hs3 | exact Nat.le_refl _ | (simp; done) | (simp; omega)) _)))))
      (first
        | (go_at_call 29; (with_reducible refine (rcut_c (.agg #[.slice A1 n1 c1, .bool bx]) _ x (G : Int) _ (HXV.out.below ?_) (HGV.out.below ?_) HGP.out HLX1.out HLG1.out).mono ?_); (go_split_ands; with_reducible assumption); (go_split_ands; with_reducible assumption); rintro e w' ⟨u, rfl, hu, hbz⟩; obtain ⟨A10, n10, c10', b10, A11, n11, c11', b11, rfl⟩ := hu.form; have HU1 := Lib.hid hu.parts.1; (first | (with_reducible have hbx := heap_below hbx hbz) | (with_reducible have hbx := heap_below (nbh1 _ (.cells #[.slice none 0 0, .bool false] 32)) hbz) | (with_reducible have hbx := heap_below (heap_alloc_new _ (.cells #[.slice none 0 0, .bool false] 32)) hbz) | skip); have hs3 : V7.heap.size ≤ w'.heap.size := Nat.le_trans (by first | exact hs3 | (simp; done) | (simp; omega)) hbz.size; clear hu)
        | (go_at_call 80; (with_reducible refine (rinverse_c _ _ (x.tdiv (G : Int)) (M : Int) _ (HU1.out.below ?_) (HMV.out.below ?_) HMP.out HCO.out HLQ.out HLM.out).mono ?_); (first | (with_reducible exact Below.refl _ _) | (with_reducible exact (Below.refl _ _).drew) | (with_reducible exact (Below.refl _ _).alloc (Nat.le_refl _) _) | (with_reducible exact ((Below.refl _ _).alloc (Nat.le_refl _) _).drew)); (go_split_ands; with_reducible assumption); rintro e w' ⟨u, X, rfl, hu, hinv, hbz⟩; obtain ⟨A12, n12, c12, b12, rfl⟩ := hu.form; have HU3 := Lib.hid hu; have HIV := Lib.hid hinv; (first | (with_reducible have hbx := heap_below hbx hbz) | (with_reducible have hbx := heap_below (nbh1 _ (.cells #[.slice none 0 0, .bool false] 32)) hbz) | (with_reducible have hbx := heap_below (heap_alloc_new _ (.cells #[.slice none 0 0, .bool false] 32)) hbz) | skip); have hs3 : V7.heap.size ≤ w'.heap.size := Nat.le_trans (by first | exact hs3 | (simp; done) | (simp; omega)) hbz.size; go_split_ands; have HB9 := Lib.hid (below_to (show Below V7.heap.size V7 _ by assumption) hbz); clear hu hinv)
        | (have e0 := box0 hbx; have e1 := box1 hbx; have z0 := free_of_heap hbx 0; have z1 := free_of_heap hbx 1; go_simp))
    all_goals
      go_wp2_with fail
      (first
        | (obtain ⟨F, hF, HPF⟩ := rx_put (rx_zero hbx) HU3.out; rw [hF])
        | (obtain ⟨F, hF, HPF⟩ := put_new 32 HU3.out; rw [hF]))
      go_meet
      exact ⟨_, _, rfl, by first | exact Nat.le_refl _ | exact hs3 | omega, HPF.at_, HIV.out, HPF.bel _ _ (by first | exact Nat.le_refl _ | exact hs3 | omega) HB9.out⟩
  case rest =>
    obtain ⟨g8, X, rfl, hg8, HX8, HIV, HB8⟩ := hcut
    have hgm := gcd_mul (x := x) (y := y) (X := X) HY.out (by rw [HGE.out, HMM.out]; exact HIV.out)
    rw [HGE.out] at hgm
    have HGM := Lib.hid hgm
    have HLX8 : Hid ((dg 10 X.natAbs).length ≤ 400000) := Nat.le_trans (dg_length_mono (by decide) hgm.2) HM4.out.2
    clear hgm
    obtain ⟨V8, hV8, hB8⟩ := name_world HB8.out
    rw [← hV8]
    rw [← hV8] at HX8
    clear hV8 HB8
    have c00 := keep_cell hB8 c00; have c01 := keep_cell hB8 c01; have c10 := keep_cell hB8 c10; have c11 := keep_cell hB8 c11; have c50 := keep_cell hB8 c50; have c51 := keep_cell hB8 c51
    have HXV := Lib.hid (HXV.out.below hB8); have HYV := Lib.hid (HYV.out.below hB8); have HGV := Lib.hid (HGV.out.below hB8)
    have HBV := Lib.hid (below_then HBV.out hB8 (by omega))
    have HH4 := Lib.hid (heap_below HH4.out hB8)
    have hl8 : P5 < V8.heap.size := Nat.lt_of_lt_of_le hl7 hB8.size
    obtain ⟨A12, n12, c12, b12, t12, h12, hi12⟩ := HX8.out
    have c80 := box0 h12; have c81 := box1 h12
    have HI8 := Lib.hid hi12
    have hg8l : g8 < V8.heap.size := HX8.out.lt
    have hbx := h12
    clear hB8 h12 hi12 c70 c71 HMV HX8
    have HL1 : Hid ((dg 10 X.natAbs).length ≤ 1000000) := Nat.le_trans HLX8.out (by decide)
    have HLP' : Hid ((dg 10 (-(X * x)).natAbs).length ≤ 800000) := by show _ ≤ _; rw [Int.natAbs_neg]; exact len_prod HLX8.out HM4.out.1
    have HLP : Hid ((dg 10 (-(X * x)).natAbs).length ≤ 1000000) := Nat.le_trans HLP'.out (by decide)
    have HLG9 : Hid ((dg 10 (G : Int).natAbs).length ≤ 1000000) := Nat.le_trans HLG.out (by decide)
    have HLR : Hid ((dg 10 ((G : Int) + -(X * x)).natAbs).length ≤ 1000000) := Nat.le_trans (len_sum (k := 800000) (Nat.le_trans HLG.out (by decide)) HLP'.out) (by decide)
    go_upto_region 9 with fail
    go_cut [9] from 9 to 57 (fun p9 wx => ∃ g9, p9 = .pointer (some ⟨g9, 0, none⟩) ∧ V8.heap.size ≤ g9 ∧ Hid (Rx wx g9 ((G : Int) + -(X * x))) ∧ Hid (Below V8.heap.size V8 wx))
    case first =>
      have HSS : Hid (∀ w', Below V8.heap.size V8 w' → w'.cell? ⟨w.heap.size, 0, none⟩ = some (.slice A1 n1 c1) ∧ w'.cell? ⟨w.heap.size, 1, none⟩ = some (.bool bx) ∧ w'.cell? ⟨P5, 0, none⟩ = some (.slice A5 n5 c5) ∧ w'.cell? ⟨P5, 1, none⟩ = some (.bool false) ∧ w'.cell? ⟨g8, 0, none⟩ = some (.slice A12 n12 c12) ∧ w'.cell? ⟨g8, 1, none⟩ = some (.bool b12) ∧ Below V8.heap.size V8 w') := fun w' h => ⟨keep_cell h c00, keep_cell h c01, keep_cell h c50, keep_cell h c51, keep_cell h c80, keep_cell h c81, h⟩
      have hbl := Below.refl V8.heap.size V8
      have hs3 := Nat.le_refl V8.heap.size
      have HU1 := Lib.hid True.intro; have HU2 := Lib.hid True.intro
      go_region_held3 (fun w' => w'.cell? ⟨w.heap.size, 0, none⟩ = some (.slice A1 n1 c1) ∧ w'.cell? ⟨w.heap.size, 1, none⟩ = some (.bool bx) ∧ w'.cell? ⟨P5, 0, none⟩ = some (.slice A5 n5 c5) ∧ w'.cell? ⟨P5, 1, none⟩ = some (.bool false) ∧ w'.cell? ⟨g8, 0, none⟩ = some (.slice A12 n12 c12) ∧ w'.cell? ⟨g8, 1, none⟩ = some (.bool b12) ∧ Below V8.heap.size V8 w')
        ((go_split_ands; (with_reducible refine HSS.out _ ?_); (repeat (first | (with_reducible assumption) | (with_reducible refine below_to ?_ hbz) | (with_reducible refine below_al ?_ _) | (with_reducible refine Below.drew ?_) | (with_reducible refine Below.setCell ?_ (by first | exact hs3 | exact Nat.le_refl _ | (simp; done) | (simp; omega)) _)))))
        (first
          | (go_at_call 26; (with_reducible refine (product_c (.agg #[.slice A12 n12 c12, .bool b12]) _ X x _ (HI8.out.below ?_) (HXV.out.below ?_) HL1.out HLX1.out).mono ?_); (go_split_ands; with_reducible assumption); (go_split_ands; with_reducible assumption); rintro e w' ⟨u, rfl, hu, hbz⟩; obtain ⟨A13, n13, c13, b13, rfl⟩ := hu.form; have HU1 := Lib.hid hu; (first | (with_reducible have hbx := heap_below hbx hbz) | (with_reducible have hbx := heap_below (nbh1 _ (.cells #[.slice none 0 0, .bool false] 32)) hbz) | (with_reducible have hbx := heap_below (heap_alloc_new _ (.cells #[.slice none 0 0, .bool false] 32)) hbz) | skip); have hs3 : V8.heap.size ≤ w'.heap.size := Nat.le_trans (by first | exact hs3 | (simp; done) | (simp; omega)) hbz.size; clear hu)
          | (go_at_call 81; (with_reducible refine (rminus_c _ (X * x) _ (HU1.out.below ?_)).mono ?_); (first | (with_reducible exact Below.refl _ _) | (with_reducible exact (Below.refl _ _).drew) | (with_reducible exact (Below.refl _ _).alloc (Nat.le_refl _) _) | (with_reducible exact ((Below.refl _ _).alloc (Nat.le_refl _) _).drew)); rintro e w' ⟨u, rfl, hu, hbz⟩; obtain ⟨A14, n14, c14, b14, rfl⟩ := hu.form; have HU2 := Lib.hid hu; (first | (with_reducible have hbx := heap_below hbx hbz) | (with_reducible have hbx := heap_below (nbh1 _ (.cells #[.slice none 0 0, .bool false] 32)) hbz) | (with_reducible have hbx := heap_below (heap_alloc_new _ (.cells #[.slice none 0 0, .bool false] 32)) hbz) | skip); have hs3 : V8.heap.size ≤ w'.heap.size := Nat.le_trans (by first | exact hs3 | (simp; done) | (simp; omega)) hbz.size; clear hu)
          | (go_at_call 47; (with_reducible refine (rsum_c (.agg #[.slice A5 n5 c5, .bool false]) _ (G : Int) (-(X * x)) _ (HGV.out.below ?_) (HU2.out.below ?_) HLG9.out HLP.out).mono ?_); (go_split_ands; with_reducible assumption); (first | (with_reducible exact Below.refl _ _) | (with_reducible exact (Below.refl _ _).drew) | (with_reducible exact (Below.refl _ _).alloc (Nat.le_refl _) _) | (with_reducible exact ((Below.refl _ _).alloc (Nat.le_refl _) _).drew)); rintro e w' ⟨u, rfl, hu, hbz⟩; obtain ⟨A15, n15, c15, b15, rfl⟩ := hu.form; have HU3 := Lib.hid hu; (first | (with_reducible have hbx := heap_below hbx hbz) | (with_reducible have hbx := heap_below (nbh1 _ (.cells #[.slice none 0 0, .bool false] 32)) hbz) | (with_reducible have hbx := heap_below (heap_alloc_new _ (.cells #[.slice none 0 0, .bool false] 32)) hbz) | skip); have hs3 : V8.heap.size ≤ w'.heap.size := Nat.le_trans (by first | exact hs3 | (simp; done) | (simp; omega)) hbz.size; go_split_ands; have HB9 := Lib.hid (below_to (show Below V8.heap.size V8 _ by assumption) hbz); clear hu)
          | (have e0 := box0 hbx; have e1 := box1 hbx; have z0 := free_of_heap hbx 0; have z1 := free_of_heap hbx 1; go_simp))
      all_goals
        go_wp2_with fail
        (first
          | (obtain ⟨F, hF, HPF⟩ := rx_put (rx_zero hbx) HU3.out; rw [hF])
          | (obtain ⟨F, hF, HPF⟩ := put_new 32 HU3.out; rw [hF]))
        go_meet
        exact ⟨_, rfl, by first | exact Nat.le_refl _ | exact hs3 | omega, HPF.at_, HPF.bel _ _ (by first | exact Nat.le_refl _ | exact hs3 | omega) HB9.out⟩
    case rest =>
      obtain ⟨g9, rfl, hg9, HX9, HB9⟩ := hcut
      obtain ⟨V9, hV9, hB9⟩ := name_world HB9.out
      rw [← hV9]
      rw [← hV9] at HX9
      clear hV9 HB9
      have c10 := keep_cell hB9 c10; have c11 := keep_cell hB9 c11; have c50 := keep_cell hB9 c50; have c51 := keep_cell hB9 c51; have c80 := keep_cell hB9 c80; have c81 := keep_cell hB9 c81
      have HYV := Lib.hid (HYV.out.below hB9); have HGV := Lib.hid (HGV.out.below hB9); have HI8 := Lib.hid (HI8.out.below hB9)
      have HBV := Lib.hid (below_then HBV.out hB9 (by omega))
      have HH4 := Lib.hid (heap_below HH4.out hB9)
      obtain ⟨A16, n16, c16, b16, t16, h16, hi16⟩ := HX9.out
      have c90 := box0 h16; have c91 := box1 h16
      have HI9 := Lib.hid hi16
      have hl9 : V8.heap.size ≤ V9.heap.size := hB9.size
      clear hB9 h16 hi16 HX9 hbx c00 c01
      have hne1 : w.heap.size + 1 + 1 ≠ P5 := by omega
      have hne2 : w.heap.size + 1 + 1 ≠ g8 := by omega
      have hne3 : w.heap.size + 1 + 1 ≠ g9 := by omega
      have hne4 : w.heap.size + 1 + 1 ≠ w.heap.size + 1 := by omega
      have HLY9 : Hid ((dg 10 y.natAbs).length ≤ 999999) := by have := HM4.out.2; show _ ≤ _; omega
      have HUQ := Lib.hid True.intro
      go_upto_region 10 with fail
      go_region_held3 (fun w' => w'.cell? ⟨P5, 0, none⟩ = some (.slice A5 n5 c5) ∧ w'.cell? ⟨P5, 1, none⟩ = some (.bool false) ∧ w'.cell? ⟨g8, 0, none⟩ = some (.slice A12 n12 c12) ∧ w'.cell? ⟨g8, 1, none⟩ = some (.bool b12) ∧ w'.cell? ⟨g9, 0, none⟩ = some (.slice A16 n16 c16) ∧ w'.cell? ⟨g9, 1, none⟩ = some (.bool b16) ∧ w'.cell? ⟨w.heap.size + 1, 0, none⟩ = some (.slice A2 n2 c2) ∧ w'.cell? ⟨w.heap.size + 1, 1, none⟩ = some (.bool by_))
        ((go_split_ands; and_intros <;> (first | (with_reducible assumption) | ((repeat (first | (with_reducible assumption) | (with_reducible refine set_far _ (by first | exact hne1 | exact hne2 | exact hne3 | exact hne4) ?_) | (with_reducible refine keep_cell hbz ?_) | (with_reducible refine keep_cell (Below.refl _ _).drew ?_))); done) | (trace_state; fail))))
        (first
          | (go_at_call 29; (with_reducible refine (rcut_c _ _ ((G : Int) + -(X * x)) y _ (HI9.out.below ?_) (HYV.out.below ?_) HY.out HLR.out HLY9.out).mono ?_); (first | (with_reducible exact Below.refl _ _) | (with_reducible exact (Below.refl _ _).drew) | (with_reducible exact (Below.refl _ _).alloc (Nat.le_refl _) _) | (with_reducible exact ((Below.refl _ _).alloc (Nat.le_refl _) _).drew)); (first | (with_reducible exact Below.refl _ _) | (with_reducible exact (Below.refl _ _).drew) | (with_reducible exact (Below.refl _ _).alloc (Nat.le_refl _) _) | (with_reducible exact ((Below.refl _ _).alloc (Nat.le_refl _) _).drew)); rintro e w' ⟨u, rfl, hu, hbz⟩; obtain ⟨A17, n17, c17, b17, A18, n18, c18, b18, rfl⟩ := hu.form; have HUQ := Lib.hid hu.parts.1; have HB10 : Hid (Below V9.heap.size V9 w') := Lib.hid (below_to (show Below V9.heap.size V9 _ from by (first | (with_reducible exact Below.refl _ _) | (with_reducible exact (Below.refl _ _).drew) | (with_reducible exact (Below.refl _ _).alloc (Nat.le_refl _) _) | (with_reducible exact ((Below.refl _ _).alloc (Nat.le_refl _) _).drew))) hbz); have hh4 := heap_below HH4.out HB10.out; have HH5 := Lib.hid hh4; obtain ⟨q0, q1, q2, q3, q4, q5⟩ := six_cells hh4; have f0 := free_of_heap hh4 0; have f1 := free_of_heap hh4 1; have f2 := free_of_heap hh4 2; have f3 := free_of_heap hh4 3; have f4 := free_of_heap hh4 4; have f5 := free_of_heap hh4 5; clear hu hh4))
      all_goals
        go_wp2_with fail
        obtain ⟨F, hF, hbF, hBz, hbf⟩ := bz_put (HGV.out.below HB10.out) (HI8.out.below HB10.out) HUQ.out HH5.out
        try rw [hF]
        obtain ⟨r0, r1, r2, r3, r4, r5⟩ := six_cells hbF
        refine bodyPost_ret (v := .agg #[.slice A5 n5 c5, .bool false, .slice A12 n12 c12, .bool b12, .slice A17 n17 c17, .bool b17]) (by simp [results, Tryz.results35, go_sem, r0, r1, r2, r3, r4, r5]) rfl ?_
        exact ⟨_, _, _, rfl, by rw [HGE.out]; exact hBz, by rw [HGE.out]; exact HGM.out.1, hbf _ _ (by omega) (below_then HBV.out HB10.out (by omega))⟩
theorem rgcd_c (v1 v2 : Value) (x y : Int) (w : World) (h1 : Ri w v1 x) (h2 : Ri w v2 y) (hm : (dg 10 x.natAbs).length ≤ 400000) (hn : (dg 10 y.natAbs).length ≤ 400000) :
    Calls Tryz.prog 35 #[v1, v2] w (RGcdP x y w) := by
  by_cases hy : y = 0
  · exact rgcd_zero v1 v2 x y w h1 h2 hy hm hn
  · exact rgcd_ne v1 v2 x y w h1 h2 hy hm hn
end Go.Proofs.YtbjgpbdkofadiaaGreatDoor
