/- Texts of this claim, merged: SpI, Sticky, RootP, MonoB, RootM, SpJ, SpG, SpK. -/
import Derived.Test.YtekbfommnmikbaaGreatDoorQ8
/- The reference of layer 2: Plus, Sum, Times, more. -/
namespace Go.Proofs.YtekbfommnmikbaaGreatDoor
set_option linter.unusedVariables false
set_option linter.unusedSimpArgs false
open Go.RowKit Go.Shelf Go.Proofs
attribute [local go_sem ↓] Go.wp_at_zero Go.wp_at_succ
attribute [local go_sem] max2_int min2_int max_two min_two

set_option maxRecDepth 100000 in
set_option maxHeartbeats 8000000 in
theorem splus_c (v1 v2 : Value) (x ex y ey : Int) (w : World) (h1 : Dc w v1 x ex) (h2 : Dc w v2 y ey) (hx : (dg 10 x.natAbs).length ≤ 1000) (hy : (dg 10 y.natAbs).length ≤ 1000) (a0 : -10000 ≤ ex) (a1 : ex ≤ 10000) (b0 : -10000 ≤ ey) (b1 : ey ≤ 10000) :
    Calls Tryz.prog 114 #[v1, v2] w fun en w' => ∃ v, en = .returned v ∧ Dc w' v (x * 10 ^ (ex - mn ex ey).toNat + y * 10 ^ (ey - mn ex ey).toNat) (mn ex ey) ∧ Below w.heap.size w w' := by
  obtain ⟨A1, n1, p1, s1, rfl, hr1⟩ := h1
  obtain ⟨A2, n2, p2, s2, rfl, hr2⟩ := h2
  obtain ⟨W, hW, k0, k1, k2, hbel⟩ := bx3h w #[.slice A1 n1 p1, .bool s1, .int .i64 ex] #[.slice A2 n2 p2, .bool s2, .int .i64 ey] #[.slice none 0 0, .bool false, .int .i64 0] 60 60 60
  obtain ⟨c0, c1, c2⟩ := three_cells k0
  obtain ⟨z0, z1, z2⟩ := three_cells k1
  have HKB := Lib.hid k2
  have HBEL := Lib.hid hbel
  have HD1 : Hid (Dc W (.agg #[.slice A1 n1 p1, .bool s1, .int .i64 ex]) x ex) := ⟨A1, n1, p1, s1, rfl, hr1.below hbel⟩
  have HD2 : Hid (Dc W (.agg #[.slice A2 n2 p2, .bool s2, .int .i64 ey]) y ey) := ⟨A2, n2, p2, s2, rfl, hr2.below hbel⟩
  obtain ⟨m, hm⟩ : ∃ m, mn ex ey = m := ⟨_, rfl⟩
  have hmn : (if ey < ex then ey else ex) = m := hm
  obtain ⟨hm1, hm2⟩ := mn_le ex ey
  rw [hm] at hm1 hm2 ⊢
  have hm0 : -10000 ≤ m := by unfold mn at hm; split at hm <;> omega
  obtain ⟨k, hk⟩ : ∃ k, (ex - m).toNat = k := ⟨_, rfl⟩
  obtain ⟨j, hj⟩ : ∃ j, (ey - m).toNat = j := ⟨_, rfl⟩
  rw [hk, hj]
  have HKJ := Lib.hid (show ex - m = (k : Int) ∧ k ≤ 20000 ∧ ey - m = (j : Int) ∧ j ≤ 20000 from ⟨by omega, by omega, by omega, by omega⟩)
  have HFX := Lib.hid (dg_shift_le k hx)
  have HFY := Lib.hid (dg_shift_le j hy)
  have HAX := Lib.hid (fun w' (hb : Below W.heap.size W w') => sat_c _ x ex m k w' (HD1.out.below hb) (by omega) HKJ.out.1 (by have := HKJ.out.2.1; omega) (by omega) (by omega))
  have HAY := Lib.hid (fun w' (hb : Below W.heap.size W w') => sat_c _ y ey m j w' (HD2.out.below hb) (by omega) HKJ.out.2.2.1 (by have := HKJ.out.2.2.2; omega) (by omega) (by omega))
  have HSU := Lib.hid (fun v1 v2 w' h1 h2 => rsum_c v1 v2 (x * 10 ^ k) (y * 10 ^ j) w' h1 h2 (by have := HFX.out; have := HKJ.out.2.1; omega) (by have := HFY.out; have := HKJ.out.2.2.2; omega))
  clear k0 k1 k2 hbel hk hj hm hr1 hr2 hx hy
  go_enter Tryz.func114, Tryz.ntmps114
  go_upto_region 2 with fail
  try rw [hmn]
  clear hmn
  go_cut [19] from 11 to 19 (fun _ wx => ∃ A n c b, wx.cell? ⟨w.heap.size + 2, 0, none⟩ = some (.slice A n c) ∧ wx.cell? ⟨w.heap.size + 2, 1, none⟩ = some (.bool b) ∧ wx.cell? ⟨w.heap.size + 2, 2, none⟩ = some (.int .i64 (m)) ∧ Hid (Ri wx (.agg #[.slice A n c, .bool b]) (x * 10 ^ k + y * 10 ^ j)) ∧ Hid (Below w.heap.size w wx))
  case first =>
    have HSTL : StableL [(fun _ v => v = .agg #[.slice A1 n1 p1, .bool s1, .int .i64 ex]), (fun _ v => v = .int .i64 m), (fun w v => Ri w v (x * 10 ^ k)), (fun _ v => v = .agg #[.slice A2 n2 p2, .bool s2, .int .i64 ey]), (fun _ v => v = .int .i64 m), (fun w v => Ri w v (y * 10 ^ j)), (fun w v => Ri w v (x * 10 ^ k + y * 10 ^ j)), (fun _ v => v = .int .i64 m), (fun w v => Dc w v (x * 10 ^ k + y * 10 ^ j) (m)), (fun _ _ => True)] := ⟨(fun _ _ _ _ h => h), (fun _ _ _ _ h => h), (fun _ _ _ hb h => Ri.below h hb), (fun _ _ _ _ h => h), (fun _ _ _ _ h => h), (fun _ _ _ hb h => Ri.below h hb), (fun _ _ _ hb h => Ri.below h hb), (fun _ _ _ _ h => h), (fun _ _ _ hb h => Dc.below h hb), (fun _ _ _ _ h => h), trivial⟩
    refine wp_region_p [11, 12, 13, 14, 15, 16, 17, 18, 19] [11, 12, 13, 14, 15, 16, 17, 18, 19, 1000] [(fun _ v => v = .agg #[.slice A1 n1 p1, .bool s1, .int .i64 ex]), (fun _ v => v = .int .i64 m), (fun w v => Ri w v (x * 10 ^ k)), (fun _ v => v = .agg #[.slice A2 n2 p2, .bool s2, .int .i64 ey]), (fun _ v => v = .int .i64 m), (fun w v => Ri w v (y * 10 ^ j)), (fun w v => Ri w v (x * 10 ^ k + y * 10 ^ j)), (fun _ v => v = .int .i64 m), (fun w v => Dc w v (x * 10 ^ k + y * 10 ^ j) (m)), (fun _ _ => True)] 9 (fun _ wx => ∃ A n c b, wx.cell? ⟨w.heap.size + 2, 0, none⟩ = some (.slice A n c) ∧ wx.cell? ⟨w.heap.size + 2, 1, none⟩ = some (.bool b) ∧ wx.cell? ⟨w.heap.size + 2, 2, none⟩ = some (.int .i64 (m)) ∧ Hid (Ri wx (.agg #[.slice A n c, .bool b]) (x * 10 ^ k + y * 10 ^ j)) ∧ Hid (Below w.heap.size w wx)) 10 rfl (by kernel_rfl) (by kernel_rfl) ?_ ⟨?_, ?_, ?_, ?_, ?_, ?_, ?_, ?_, ?_, ?_, trivial⟩
    · intro l us wx hl hJ
      have HF := Lib.hid (hJ.ended hl (by decide))
      clear hl hJ
      simp only [At, List.foldl_cons, List.foldl_nil, List.setIfInBounds_toArray, List.set_cons_zero, List.set_cons_succ]
      go_wp2_with fail
      go_meet
      exact HF.out
    · refine opAt rfl ?_
      intro l us wx hJ hp hl K hK
      have HJ := Lib.hid hJ; have HP := Lib.hid hp; have HLI := Lib.hid hl; have HF := Lib.hid (hJ.live hl (by decide)); have HBX := Lib.hid (hJ.below HF.out); have HK := hK
      clear hJ hp hl hK
      simp only [At, List.foldl_cons, List.foldl_nil, List.setIfInBounds_toArray, List.set_cons_zero, List.set_cons_succ] at HK
      have HK := Lib.hid HK
      have c0 := keep_cell HBX.out c0
      have c1 := keep_cell HBX.out c1
      have c2 := keep_cell HBX.out c2
      simp only [At, List.foldl_cons, List.foldl_nil, List.setIfInBounds_toArray, List.set_cons_zero, List.set_cons_succ]
      refine ⟨?_⟩
      go_simp
      exact HK.out (upd us 11 (.agg #[.slice A1 n1 p1, .bool s1, .int .i64 ex])) wx (by exact HJ.out.go HSTL (by kernel_rfl) 0 HF.out (by decide) (by decide) HP.out (Below.refl _ _) (.agg #[.slice A1 n1 p1, .bool s1, .int .i64 ex]) (rfl))
    · refine opAt rfl ?_
      intro l us wx hJ hp hl K hK
      have HJ := Lib.hid hJ; have HP := Lib.hid hp; have HLI := Lib.hid hl; have HF := Lib.hid (hJ.live hl (by decide)); have HBX := Lib.hid (hJ.below HF.out); have HK := hK
      clear hJ hp hl hK
      simp only [At, List.foldl_cons, List.foldl_nil, List.setIfInBounds_toArray, List.set_cons_zero, List.set_cons_succ] at HK
      have HK := Lib.hid HK
      simp only [At, List.foldl_cons, List.foldl_nil, List.setIfInBounds_toArray, List.set_cons_zero, List.set_cons_succ]
      refine ⟨?_⟩
      go_simp
      exact HK.out (upd us 12 (.int .i64 m)) wx (by exact HJ.out.go HSTL (by kernel_rfl) 1 HF.out (by decide) (by decide) HP.out (Below.refl _ _) (.int .i64 m) (rfl))
    · refine opAt rfl ?_
      intro l us wx hJ hp hl K hK
      have HJ := Lib.hid hJ; have HP := Lib.hid hp; have HLI := Lib.hid hl; have HF := Lib.hid (hJ.live hl (by decide)); have HBX := Lib.hid (hJ.below HF.out); have HK := hK
      clear hJ hp hl hK
      simp only [At, List.foldl_cons, List.foldl_nil, List.setIfInBounds_toArray, List.set_cons_zero, List.set_cons_succ] at HK
      have HK := Lib.hid HK
      have h11 : us 11 = .agg #[.slice A1 n1 p1, .bool s1, .int .i64 ex] := HJ.out.val HF.out 0 (by decide) (HP.out 0 (by kernel_rfl))
      have h12 : us 12 = .int .i64 m := HJ.out.val HF.out 1 (by decide) (HP.out 1 (by kernel_rfl))
      simp only [At, List.foldl_cons, List.foldl_nil, List.setIfInBounds_toArray, List.set_cons_zero, List.set_cons_succ]
      refine ⟨?_⟩
      go_simp
      go_wp2_with ((go_at_call 118; (with_reducible refine (HAX.out _ HBX.out).mono ?_); rintro en w9 ⟨v9, rfl, hv9, hbz⟩; have HV := Lib.hid hv9; clear hv9; have HC := Lib.hid hbz; clear hbz))
      exact HK.out (upd (upd (upd us 11 (.agg #[.slice A1 n1 p1, .bool s1, .int .i64 ex])) 12 (.int .i64 m)) 13 (v9)) w9 (by rw [upd_self h11, upd_self h12]; exact HJ.out.go HSTL (by kernel_rfl) 2 HF.out (by decide) (by decide) HP.out HC.out (v9) (HV.out))
    · refine opAt rfl ?_
      intro l us wx hJ hp hl K hK
      have HJ := Lib.hid hJ; have HP := Lib.hid hp; have HLI := Lib.hid hl; have HF := Lib.hid (hJ.live hl (by decide)); have HBX := Lib.hid (hJ.below HF.out); have HK := hK
      clear hJ hp hl hK
      simp only [At, List.foldl_cons, List.foldl_nil, List.setIfInBounds_toArray, List.set_cons_zero, List.set_cons_succ] at HK
      have HK := Lib.hid HK
      have z0 := keep_cell HBX.out z0
      have z1 := keep_cell HBX.out z1
      have z2 := keep_cell HBX.out z2
      simp only [At, List.foldl_cons, List.foldl_nil, List.setIfInBounds_toArray, List.set_cons_zero, List.set_cons_succ]
      refine ⟨?_⟩
      go_simp
      exact HK.out (upd us 14 (.agg #[.slice A2 n2 p2, .bool s2, .int .i64 ey])) wx (by exact HJ.out.go HSTL (by kernel_rfl) 3 HF.out (by decide) (by decide) HP.out (Below.refl _ _) (.agg #[.slice A2 n2 p2, .bool s2, .int .i64 ey]) (rfl))
    · refine opAt rfl ?_
      intro l us wx hJ hp hl K hK
      have HJ := Lib.hid hJ; have HP := Lib.hid hp; have HLI := Lib.hid hl; have HF := Lib.hid (hJ.live hl (by decide)); have HBX := Lib.hid (hJ.below HF.out); have HK := hK
      clear hJ hp hl hK
      simp only [At, List.foldl_cons, List.foldl_nil, List.setIfInBounds_toArray, List.set_cons_zero, List.set_cons_succ] at HK
      have HK := Lib.hid HK
      simp only [At, List.foldl_cons, List.foldl_nil, List.setIfInBounds_toArray, List.set_cons_zero, List.set_cons_succ]
      refine ⟨?_⟩
      go_simp
      exact HK.out (upd us 15 (.int .i64 m)) wx (by exact HJ.out.go HSTL (by kernel_rfl) 4 HF.out (by decide) (by decide) HP.out (Below.refl _ _) (.int .i64 m) (rfl))
    · refine opAt rfl ?_
      intro l us wx hJ hp hl K hK
      have HJ := Lib.hid hJ; have HP := Lib.hid hp; have HLI := Lib.hid hl; have HF := Lib.hid (hJ.live hl (by decide)); have HBX := Lib.hid (hJ.below HF.out); have HK := hK
      clear hJ hp hl hK
      simp only [At, List.foldl_cons, List.foldl_nil, List.setIfInBounds_toArray, List.set_cons_zero, List.set_cons_succ] at HK
      have HK := Lib.hid HK
      have h14 : us 14 = .agg #[.slice A2 n2 p2, .bool s2, .int .i64 ey] := HJ.out.val HF.out 3 (by decide) (HP.out 3 (by kernel_rfl))
      have h15 : us 15 = .int .i64 m := HJ.out.val HF.out 4 (by decide) (HP.out 4 (by kernel_rfl))
      simp only [At, List.foldl_cons, List.foldl_nil, List.setIfInBounds_toArray, List.set_cons_zero, List.set_cons_succ]
      refine ⟨?_⟩
      go_simp
      go_wp2_with ((go_at_call 118; (with_reducible refine (HAY.out _ HBX.out).mono ?_); rintro en w9 ⟨v9, rfl, hv9, hbz⟩; have HV := Lib.hid hv9; clear hv9; have HC := Lib.hid hbz; clear hbz))
      exact HK.out (upd (upd (upd us 14 (.agg #[.slice A2 n2 p2, .bool s2, .int .i64 ey])) 15 (.int .i64 m)) 16 (v9)) w9 (by rw [upd_self h14, upd_self h15]; exact HJ.out.go HSTL (by kernel_rfl) 5 HF.out (by decide) (by decide) HP.out HC.out (v9) (HV.out))
    · refine opAt rfl ?_
      intro l us wx hJ hp hl K hK
      have HJ := Lib.hid hJ; have HP := Lib.hid hp; have HLI := Lib.hid hl; have HF := Lib.hid (hJ.live hl (by decide)); have HBX := Lib.hid (hJ.below HF.out); have HK := hK
      clear hJ hp hl hK
      simp only [At, List.foldl_cons, List.foldl_nil, List.setIfInBounds_toArray, List.set_cons_zero, List.set_cons_succ] at HK
      have HK := Lib.hid HK
      have h13 : Ri wx (us 13) (x * 10 ^ k) := HJ.out.val HF.out 2 (by decide) (HP.out 2 (by kernel_rfl))
      obtain ⟨A13, n13, q13, b13, e13⟩ := h13.form
      have h16 : Ri wx (us 16) (y * 10 ^ j) := HJ.out.val HF.out 5 (by decide) (HP.out 5 (by kernel_rfl))
      obtain ⟨A16, n16, q16, b16, e16⟩ := h16.form
      rw [e13] at h13; rw [e16] at h16
      simp only [At, List.foldl_cons, List.foldl_nil, List.setIfInBounds_toArray, List.set_cons_zero, List.set_cons_succ]
      refine ⟨?_⟩
      go_simp
      go_wp2_with ((go_at_call 175; (with_reducible refine (HSU.out _ _ _ h13 h16).mono ?_); rintro en w9 ⟨v9, rfl, hv9, hbz⟩; have HV := Lib.hid hv9; clear hv9; have HC := Lib.hid hbz; clear hbz))
      exact HK.out (upd (upd (upd us 13 (.agg #[.slice A13 n13 q13, .bool b13])) 16 (.agg #[.slice A16 n16 q16, .bool b16])) 17 (v9)) w9 (by rw [upd_self e13, upd_self e16]; exact HJ.out.go HSTL (by kernel_rfl) 6 HF.out (by decide) (by decide) HP.out HC.out (v9) (HV.out))
    · refine opAt rfl ?_
      intro l us wx hJ hp hl K hK
      have HJ := Lib.hid hJ; have HP := Lib.hid hp; have HLI := Lib.hid hl; have HF := Lib.hid (hJ.live hl (by decide)); have HBX := Lib.hid (hJ.below HF.out); have HK := hK
      clear hJ hp hl hK
      simp only [At, List.foldl_cons, List.foldl_nil, List.setIfInBounds_toArray, List.set_cons_zero, List.set_cons_succ] at HK
      have HK := Lib.hid HK
      simp only [At, List.foldl_cons, List.foldl_nil, List.setIfInBounds_toArray, List.set_cons_zero, List.set_cons_succ]
      refine ⟨?_⟩
      go_simp
      exact HK.out (upd us 18 (.int .i64 m)) wx (by exact HJ.out.go HSTL (by kernel_rfl) 7 HF.out (by decide) (by decide) HP.out (Below.refl _ _) (.int .i64 m) (rfl))
    · refine opAt rfl ?_
      intro l us wx hJ hp hl K hK
      have HJ := Lib.hid hJ; have HP := Lib.hid hp; have HLI := Lib.hid hl; have HF := Lib.hid (hJ.live hl (by decide)); have HBX := Lib.hid (hJ.below HF.out); have HK := hK
      clear hJ hp hl hK
      simp only [At, List.foldl_cons, List.foldl_nil, List.setIfInBounds_toArray, List.set_cons_zero, List.set_cons_succ] at HK
      have HK := Lib.hid HK
      have h17 : Ri wx (us 17) (x * 10 ^ k + y * 10 ^ j) := HJ.out.val HF.out 6 (by decide) (HP.out 6 (by kernel_rfl))
      obtain ⟨A17, n17, q17, b17, e17⟩ := h17.form
      have h18 : us 18 = .int .i64 m := HJ.out.val HF.out 7 (by decide) (HP.out 7 (by kernel_rfl))
      simp only [At, List.foldl_cons, List.foldl_nil, List.setIfInBounds_toArray, List.set_cons_zero, List.set_cons_succ]
      refine ⟨?_⟩
      go_simp
      exact HK.out (upd (upd (upd us 17 (.agg #[.slice A17 n17 q17, .bool b17])) 18 (.int .i64 m)) 19 (.agg #[.slice A17 n17 q17, .bool b17, .int .i64 (m)])) wx (by rw [upd_self e17, upd_self h18]; exact HJ.out.go HSTL (by kernel_rfl) 8 HF.out (by decide) (by decide) HP.out (Below.refl _ _) (.agg #[.slice A17 n17 q17, .bool b17, .int .i64 (m)]) (⟨A17, n17, q17, b17, rfl, by rw [← e17]; exact h17⟩))
    · refine opAt rfl ?_
      intro l us wx hJ hp hl K hK
      have HJ := Lib.hid hJ; have HP := Lib.hid hp; have HLI := Lib.hid hl; have HF := Lib.hid (hJ.live hl (by decide)); have HBX := Lib.hid (hJ.below HF.out); have HK := hK
      clear hJ hp hl hK
      simp only [At, List.foldl_cons, List.foldl_nil, List.setIfInBounds_toArray, List.set_cons_zero, List.set_cons_succ] at HK
      have HK := Lib.hid HK
      have h19 : Dc wx (us 19) (x * 10 ^ k + y * 10 ^ j) (m) := HJ.out.val HF.out 8 (by decide) (HP.out 8 (by kernel_rfl))
      obtain ⟨A19, n19, q19, b19, e19, hr19⟩ := h19
      have hb9 := heapB HBX.out HKB.out
      obtain ⟨d0, d1, d2⟩ := three_cells hb9
      have f0 := free_of_heap hb9 0; have f1 := free_of_heap hb9 1; have f2 := free_of_heap hb9 2
      obtain ⟨F, hF, r0, r1, r2, hri, hfb⟩ := dc_put (e := m) hr19 hb9
      have HR9 := Lib.hid hri; have HFB := Lib.hid (hfb w.heap.size w (by omega) (belowT HBEL.out HBX.out))
      clear hri hfb hr19
      simp only [At, List.foldl_cons, List.foldl_nil, List.setIfInBounds_toArray, List.set_cons_zero, List.set_cons_succ]
      refine ⟨?_⟩
      go_simp
      (try rw [hF])
      exact HK.out (upd us 19 (.agg #[.slice A19 n19 q19, .bool b19, .int .i64 (m)])) _ (by rw [upd_self e19]; exact HJ.out.store (by kernel_rfl) HLI.out HP.out (⟨A19, n19, q19, b19, r0, r1, r2, HR9.out, HFB.out⟩))
  case rest =>
    obtain ⟨A, n, c, b, r0, r1, r2, HR, HB⟩ := hcut
    go_wp2_with fail
    refine bodyPost_ret (v := .agg #[.slice A n c, .bool b, .int .i64 (m)]) (by simp [results, Tryz.results114, go_sem, r0, r1, r2]) rfl ?_
    exact ⟨_, rfl, ⟨A, n, c, b, rfl, HR.out⟩, HB.out⟩

set_option maxRecDepth 100000 in
set_option maxHeartbeats 8000000 in
theorem stimes_c (v1 v2 : Value) (x ex y ey : Int) (w : World) (h1 : Dc w v1 x ex) (h2 : Dc w v2 y ey) (hx : (dg 10 x.natAbs).length ≤ 1000) (hy : (dg 10 y.natAbs).length ≤ 1000) (a0 : -10000 ≤ ex) (a1 : ex ≤ 10000) (b0 : -10000 ≤ ey) (b1 : ey ≤ 10000) :
    Calls Tryz.prog 51 #[v1, v2] w fun en w' => ∃ v, en = .returned v ∧ Dc w' v (x * y) (ex + ey) ∧ Below w.heap.size w w' := by
  obtain ⟨A1, n1, p1, s1, rfl, hr1⟩ := h1
  obtain ⟨A2, n2, p2, s2, rfl, hr2⟩ := h2
  obtain ⟨W, hW, k0, k1, k2, hbel⟩ := bx3h w #[.slice A1 n1 p1, .bool s1, .int .i64 ex] #[.slice A2 n2 p2, .bool s2, .int .i64 ey] #[.slice none 0 0, .bool false, .int .i64 0] 60 60 60
  obtain ⟨c0, c1, c2⟩ := three_cells k0
  obtain ⟨z0, z1, z2⟩ := three_cells k1
  have HKB := Lib.hid k2
  have HBEL := Lib.hid hbel
  have HR1 := Lib.hid (hr1.below hbel)
  have HR2 := Lib.hid (hr2.below hbel)
  have HPR := Lib.hid (fun v1 v2 w' h1 h2 => rproduct_c v1 v2 x y w' h1 h2 (by omega) (by omega))
  have hw : IntKind.i64.wrap (ex + ey) = ex + ey := IntWalk.i64_in _ (by omega)
  clear k0 k1 k2 hbel hr1 hr2 hx hy
  go_enter Tryz.func51, Tryz.ntmps51
  go_upto_region 1 with fail
  go_cut [15] from 5 to 15 (fun _ wx => ∃ A n c b, wx.cell? ⟨w.heap.size + 2, 0, none⟩ = some (.slice A n c) ∧ wx.cell? ⟨w.heap.size + 2, 1, none⟩ = some (.bool b) ∧ wx.cell? ⟨w.heap.size + 2, 2, none⟩ = some (.int .i64 (ex + ey)) ∧ Hid (Ri wx (.agg #[.slice A n c, .bool b]) (x * y)) ∧ Hid (Below w.heap.size w wx))
  case first =>
    have HSTL : StableL [(fun _ v => v = .pointer (some ⟨w.heap.size, 0, none⟩)), (fun _ v => v = .agg #[.slice A1 n1 p1, .bool s1]), (fun _ v => v = .pointer (some ⟨w.heap.size + 1, 0, none⟩)), (fun _ v => v = .agg #[.slice A2 n2 p2, .bool s2]), (fun w v => Ri w v (x * y)), (fun _ v => v = .pointer (some ⟨w.heap.size, 2, none⟩)), (fun _ v => v = .int .i64 ex), (fun _ v => v = .pointer (some ⟨w.heap.size + 1, 2, none⟩)), (fun _ v => v = .int .i64 ey), (fun _ v => v = .int .i64 (ex + ey)), (fun w v => Dc w v (x * y) (ex + ey)), (fun _ _ => True)] := ⟨(fun _ _ _ _ h => h), (fun _ _ _ _ h => h), (fun _ _ _ _ h => h), (fun _ _ _ _ h => h), (fun _ _ _ hb h => Ri.below h hb), (fun _ _ _ _ h => h), (fun _ _ _ _ h => h), (fun _ _ _ _ h => h), (fun _ _ _ _ h => h), (fun _ _ _ _ h => h), (fun _ _ _ hb h => Dc.below h hb), (fun _ _ _ _ h => h), trivial⟩
    refine wp_region_p [5, 6, 7, 8, 9, 10, 11, 12, 13, 14, 15] [5, 6, 7, 8, 9, 10, 11, 12, 13, 14, 15, 1000] [(fun _ v => v = .pointer (some ⟨w.heap.size, 0, none⟩)), (fun _ v => v = .agg #[.slice A1 n1 p1, .bool s1]), (fun _ v => v = .pointer (some ⟨w.heap.size + 1, 0, none⟩)), (fun _ v => v = .agg #[.slice A2 n2 p2, .bool s2]), (fun w v => Ri w v (x * y)), (fun _ v => v = .pointer (some ⟨w.heap.size, 2, none⟩)), (fun _ v => v = .int .i64 ex), (fun _ v => v = .pointer (some ⟨w.heap.size + 1, 2, none⟩)), (fun _ v => v = .int .i64 ey), (fun _ v => v = .int .i64 (ex + ey)), (fun w v => Dc w v (x * y) (ex + ey)), (fun _ _ => True)] 11 (fun _ wx => ∃ A n c b, wx.cell? ⟨w.heap.size + 2, 0, none⟩ = some (.slice A n c) ∧ wx.cell? ⟨w.heap.size + 2, 1, none⟩ = some (.bool b) ∧ wx.cell? ⟨w.heap.size + 2, 2, none⟩ = some (.int .i64 (ex + ey)) ∧ Hid (Ri wx (.agg #[.slice A n c, .bool b]) (x * y)) ∧ Hid (Below w.heap.size w wx)) 12 rfl (by kernel_rfl) (by kernel_rfl) ?_ ⟨?_, ?_, ?_, ?_, ?_, ?_, ?_, ?_, ?_, ?_, ?_, ?_, trivial⟩
    · intro l us wx hl hJ
      have HF := Lib.hid (hJ.ended hl (by decide))
      clear hl hJ
      simp only [At, List.foldl_cons, List.foldl_nil, List.setIfInBounds_toArray, List.set_cons_zero, List.set_cons_succ]
      go_wp2_with fail
      go_meet
      exact HF.out
    · refine opAt rfl ?_
      intro l us wx hJ hp hl K hK
      have HJ := Lib.hid hJ; have HP := Lib.hid hp; have HLI := Lib.hid hl; have HF := Lib.hid (hJ.live hl (by decide)); have HBX := Lib.hid (hJ.below HF.out); have HK := hK
      clear hJ hp hl hK
      simp only [At, List.foldl_cons, List.foldl_nil, List.setIfInBounds_toArray, List.set_cons_zero, List.set_cons_succ] at HK
      have HK := Lib.hid HK
      simp only [At, List.foldl_cons, List.foldl_nil, List.setIfInBounds_toArray, List.set_cons_zero, List.set_cons_succ]
      refine ⟨?_⟩
      go_simp
      exact HK.out (upd us 5 (.pointer (some ⟨w.heap.size, 0, none⟩))) wx (by exact HJ.out.go HSTL (by kernel_rfl) 0 HF.out (by decide) (by decide) HP.out (Below.refl _ _) (.pointer (some ⟨w.heap.size, 0, none⟩)) (rfl))
    · refine opAt rfl ?_
      intro l us wx hJ hp hl K hK
      have HJ := Lib.hid hJ; have HP := Lib.hid hp; have HLI := Lib.hid hl; have HF := Lib.hid (hJ.live hl (by decide)); have HBX := Lib.hid (hJ.below HF.out); have HK := hK
      clear hJ hp hl hK
      simp only [At, List.foldl_cons, List.foldl_nil, List.setIfInBounds_toArray, List.set_cons_zero, List.set_cons_succ] at HK
      have HK := Lib.hid HK
      have h5 : us 5 = .pointer (some ⟨w.heap.size, 0, none⟩) := HJ.out.val HF.out 0 (by decide) (HP.out 0 (by kernel_rfl))
      have c0 := keep_cell HBX.out c0
      have c1 := keep_cell HBX.out c1
      simp only [At, List.foldl_cons, List.foldl_nil, List.setIfInBounds_toArray, List.set_cons_zero, List.set_cons_succ]
      refine ⟨?_⟩
      go_simp
      exact HK.out (upd (upd us 5 (.pointer (some ⟨w.heap.size, 0, none⟩))) 6 (.agg #[.slice A1 n1 p1, .bool s1])) wx (by rw [upd_self h5]; exact HJ.out.go HSTL (by kernel_rfl) 1 HF.out (by decide) (by decide) HP.out (Below.refl _ _) (.agg #[.slice A1 n1 p1, .bool s1]) (rfl))
    · refine opAt rfl ?_
      intro l us wx hJ hp hl K hK
      have HJ := Lib.hid hJ; have HP := Lib.hid hp; have HLI := Lib.hid hl; have HF := Lib.hid (hJ.live hl (by decide)); have HBX := Lib.hid (hJ.below HF.out); have HK := hK
      clear hJ hp hl hK
      simp only [At, List.foldl_cons, List.foldl_nil, List.setIfInBounds_toArray, List.set_cons_zero, List.set_cons_succ] at HK
      have HK := Lib.hid HK
      simp only [At, List.foldl_cons, List.foldl_nil, List.setIfInBounds_toArray, List.set_cons_zero, List.set_cons_succ]
      refine ⟨?_⟩
      go_simp
      exact HK.out (upd us 7 (.pointer (some ⟨w.heap.size + 1, 0, none⟩))) wx (by exact HJ.out.go HSTL (by kernel_rfl) 2 HF.out (by decide) (by decide) HP.out (Below.refl _ _) (.pointer (some ⟨w.heap.size + 1, 0, none⟩)) (rfl))
    · refine opAt rfl ?_
      intro l us wx hJ hp hl K hK
      have HJ := Lib.hid hJ; have HP := Lib.hid hp; have HLI := Lib.hid hl; have HF := Lib.hid (hJ.live hl (by decide)); have HBX := Lib.hid (hJ.below HF.out); have HK := hK
      clear hJ hp hl hK
      simp only [At, List.foldl_cons, List.foldl_nil, List.setIfInBounds_toArray, List.set_cons_zero, List.set_cons_succ] at HK
      have HK := Lib.hid HK
      have h7 : us 7 = .pointer (some ⟨w.heap.size + 1, 0, none⟩) := HJ.out.val HF.out 2 (by decide) (HP.out 2 (by kernel_rfl))
      have z0 := keep_cell HBX.out z0
      have z1 := keep_cell HBX.out z1
      simp only [At, List.foldl_cons, List.foldl_nil, List.setIfInBounds_toArray, List.set_cons_zero, List.set_cons_succ]
      refine ⟨?_⟩
      go_simp
      exact HK.out (upd (upd us 7 (.pointer (some ⟨w.heap.size + 1, 0, none⟩))) 8 (.agg #[.slice A2 n2 p2, .bool s2])) wx (by rw [upd_self h7]; exact HJ.out.go HSTL (by kernel_rfl) 3 HF.out (by decide) (by decide) HP.out (Below.refl _ _) (.agg #[.slice A2 n2 p2, .bool s2]) (rfl))
    · refine opAt rfl ?_
      intro l us wx hJ hp hl K hK
      have HJ := Lib.hid hJ; have HP := Lib.hid hp; have HLI := Lib.hid hl; have HF := Lib.hid (hJ.live hl (by decide)); have HBX := Lib.hid (hJ.below HF.out); have HK := hK
      clear hJ hp hl hK
      simp only [At, List.foldl_cons, List.foldl_nil, List.setIfInBounds_toArray, List.set_cons_zero, List.set_cons_succ] at HK
      have HK := Lib.hid HK
      have h6 : us 6 = .agg #[.slice A1 n1 p1, .bool s1] := HJ.out.val HF.out 1 (by decide) (HP.out 1 (by kernel_rfl))
      have h8 : us 8 = .agg #[.slice A2 n2 p2, .bool s2] := HJ.out.val HF.out 3 (by decide) (HP.out 3 (by kernel_rfl))
      simp only [At, List.foldl_cons, List.foldl_nil, List.setIfInBounds_toArray, List.set_cons_zero, List.set_cons_succ]
      refine ⟨?_⟩
      go_simp
      go_wp2_with ((go_at_call 124; (with_reducible refine (HPR.out _ _ _ (HR1.out.below HBX.out) (HR2.out.below HBX.out)).mono ?_); rintro en w9 ⟨v9, rfl, hv9, hbz⟩; have HV := Lib.hid hv9; clear hv9; have HC := Lib.hid hbz; clear hbz))
      exact HK.out (upd (upd (upd us 6 (.agg #[.slice A1 n1 p1, .bool s1])) 8 (.agg #[.slice A2 n2 p2, .bool s2])) 9 (v9)) w9 (by rw [upd_self h6, upd_self h8]; exact HJ.out.go HSTL (by kernel_rfl) 4 HF.out (by decide) (by decide) HP.out HC.out (v9) (HV.out))
    · refine opAt rfl ?_
      intro l us wx hJ hp hl K hK
      have HJ := Lib.hid hJ; have HP := Lib.hid hp; have HLI := Lib.hid hl; have HF := Lib.hid (hJ.live hl (by decide)); have HBX := Lib.hid (hJ.below HF.out); have HK := hK
      clear hJ hp hl hK
      simp only [At, List.foldl_cons, List.foldl_nil, List.setIfInBounds_toArray, List.set_cons_zero, List.set_cons_succ] at HK
      have HK := Lib.hid HK
      simp only [At, List.foldl_cons, List.foldl_nil, List.setIfInBounds_toArray, List.set_cons_zero, List.set_cons_succ]
      refine ⟨?_⟩
      go_simp
      exact HK.out (upd us 10 (.pointer (some ⟨w.heap.size, 2, none⟩))) wx (by exact HJ.out.go HSTL (by kernel_rfl) 5 HF.out (by decide) (by decide) HP.out (Below.refl _ _) (.pointer (some ⟨w.heap.size, 2, none⟩)) (rfl))
    · refine opAt rfl ?_
      intro l us wx hJ hp hl K hK
      have HJ := Lib.hid hJ; have HP := Lib.hid hp; have HLI := Lib.hid hl; have HF := Lib.hid (hJ.live hl (by decide)); have HBX := Lib.hid (hJ.below HF.out); have HK := hK
      clear hJ hp hl hK
      simp only [At, List.foldl_cons, List.foldl_nil, List.setIfInBounds_toArray, List.set_cons_zero, List.set_cons_succ] at HK
      have HK := Lib.hid HK
      have h10 : us 10 = .pointer (some ⟨w.heap.size, 2, none⟩) := HJ.out.val HF.out 5 (by decide) (HP.out 5 (by kernel_rfl))
      have c2 := keep_cell HBX.out c2
      simp only [At, List.foldl_cons, List.foldl_nil, List.setIfInBounds_toArray, List.set_cons_zero, List.set_cons_succ]
      refine ⟨?_⟩
      go_simp
      exact HK.out (upd (upd us 10 (.pointer (some ⟨w.heap.size, 2, none⟩))) 11 (.int .i64 ex)) wx (by rw [upd_self h10]; exact HJ.out.go HSTL (by kernel_rfl) 6 HF.out (by decide) (by decide) HP.out (Below.refl _ _) (.int .i64 ex) (rfl))
    · refine opAt rfl ?_
      intro l us wx hJ hp hl K hK
      have HJ := Lib.hid hJ; have HP := Lib.hid hp; have HLI := Lib.hid hl; have HF := Lib.hid (hJ.live hl (by decide)); have HBX := Lib.hid (hJ.below HF.out); have HK := hK
      clear hJ hp hl hK
      simp only [At, List.foldl_cons, List.foldl_nil, List.setIfInBounds_toArray, List.set_cons_zero, List.set_cons_succ] at HK
      have HK := Lib.hid HK
      simp only [At, List.foldl_cons, List.foldl_nil, List.setIfInBounds_toArray, List.set_cons_zero, List.set_cons_succ]
      refine ⟨?_⟩
      go_simp
      exact HK.out (upd us 12 (.pointer (some ⟨w.heap.size + 1, 2, none⟩))) wx (by exact HJ.out.go HSTL (by kernel_rfl) 7 HF.out (by decide) (by decide) HP.out (Below.refl _ _) (.pointer (some ⟨w.heap.size + 1, 2, none⟩)) (rfl))
    · refine opAt rfl ?_
      intro l us wx hJ hp hl K hK
      have HJ := Lib.hid hJ; have HP := Lib.hid hp; have HLI := Lib.hid hl; have HF := Lib.hid (hJ.live hl (by decide)); have HBX := Lib.hid (hJ.below HF.out); have HK := hK
      clear hJ hp hl hK
      simp only [At, List.foldl_cons, List.foldl_nil, List.setIfInBounds_toArray, List.set_cons_zero, List.set_cons_succ] at HK
      have HK := Lib.hid HK
      have h12 : us 12 = .pointer (some ⟨w.heap.size + 1, 2, none⟩) := HJ.out.val HF.out 7 (by decide) (HP.out 7 (by kernel_rfl))
      have z2 := keep_cell HBX.out z2
      simp only [At, List.foldl_cons, List.foldl_nil, List.setIfInBounds_toArray, List.set_cons_zero, List.set_cons_succ]
      refine ⟨?_⟩
      go_simp
      exact HK.out (upd (upd us 12 (.pointer (some ⟨w.heap.size + 1, 2, none⟩))) 13 (.int .i64 ey)) wx (by rw [upd_self h12]; exact HJ.out.go HSTL (by kernel_rfl) 8 HF.out (by decide) (by decide) HP.out (Below.refl _ _) (.int .i64 ey) (rfl))
    · refine opAt rfl ?_
      intro l us wx hJ hp hl K hK
      have HJ := Lib.hid hJ; have HP := Lib.hid hp; have HLI := Lib.hid hl; have HF := Lib.hid (hJ.live hl (by decide)); have HBX := Lib.hid (hJ.below HF.out); have HK := hK
      clear hJ hp hl hK
      simp only [At, List.foldl_cons, List.foldl_nil, List.setIfInBounds_toArray, List.set_cons_zero, List.set_cons_succ] at HK
      have HK := Lib.hid HK
      have h11 : us 11 = .int .i64 ex := HJ.out.val HF.out 6 (by decide) (HP.out 6 (by kernel_rfl))
      have h13 : us 13 = .int .i64 ey := HJ.out.val HF.out 8 (by decide) (HP.out 8 (by kernel_rfl))
      simp only [At, List.foldl_cons, List.foldl_nil, List.setIfInBounds_toArray, List.set_cons_zero, List.set_cons_succ]
      refine ⟨?_⟩
      go_simp
      exact HK.out (upd (upd (upd us 11 (.int .i64 ex)) 13 (.int .i64 ey)) 14 (.int .i64 (ex + ey))) wx (by rw [upd_self h11, upd_self h13]; exact HJ.out.go HSTL (by kernel_rfl) 9 HF.out (by decide) (by decide) HP.out (Below.refl _ _) (.int .i64 (ex + ey)) (rfl))
    · refine opAt rfl ?_
      intro l us wx hJ hp hl K hK
      have HJ := Lib.hid hJ; have HP := Lib.hid hp; have HLI := Lib.hid hl; have HF := Lib.hid (hJ.live hl (by decide)); have HBX := Lib.hid (hJ.below HF.out); have HK := hK
      clear hJ hp hl hK
      simp only [At, List.foldl_cons, List.foldl_nil, List.setIfInBounds_toArray, List.set_cons_zero, List.set_cons_succ] at HK
      have HK := Lib.hid HK
      have h9 : Ri wx (us 9) (x * y) := HJ.out.val HF.out 4 (by decide) (HP.out 4 (by kernel_rfl))
      obtain ⟨A9, n9, q9, b9, e9⟩ := h9.form
      have h14 : us 14 = .int .i64 (ex + ey) := HJ.out.val HF.out 9 (by decide) (HP.out 9 (by kernel_rfl))
      simp only [At, List.foldl_cons, List.foldl_nil, List.setIfInBounds_toArray, List.set_cons_zero, List.set_cons_succ]
      refine ⟨?_⟩
      go_simp
      exact HK.out (upd (upd (upd us 9 (.agg #[.slice A9 n9 q9, .bool b9])) 14 (.int .i64 (ex + ey))) 15 (.agg #[.slice A9 n9 q9, .bool b9, .int .i64 (ex + ey)])) wx (by rw [upd_self e9, upd_self h14]; exact HJ.out.go HSTL (by kernel_rfl) 10 HF.out (by decide) (by decide) HP.out (Below.refl _ _) (.agg #[.slice A9 n9 q9, .bool b9, .int .i64 (ex + ey)]) (⟨A9, n9, q9, b9, rfl, by rw [← e9]; exact h9⟩))
    · refine opAt rfl ?_
      intro l us wx hJ hp hl K hK
      have HJ := Lib.hid hJ; have HP := Lib.hid hp; have HLI := Lib.hid hl; have HF := Lib.hid (hJ.live hl (by decide)); have HBX := Lib.hid (hJ.below HF.out); have HK := hK
      clear hJ hp hl hK
      simp only [At, List.foldl_cons, List.foldl_nil, List.setIfInBounds_toArray, List.set_cons_zero, List.set_cons_succ] at HK
      have HK := Lib.hid HK
      have h15 : Dc wx (us 15) (x * y) (ex + ey) := HJ.out.val HF.out 10 (by decide) (HP.out 10 (by kernel_rfl))
      obtain ⟨A15, n15, q15, b15, e15, hr15⟩ := h15
      have hb9 := heapB HBX.out HKB.out
      obtain ⟨d0, d1, d2⟩ := three_cells hb9
      have f0 := free_of_heap hb9 0; have f1 := free_of_heap hb9 1; have f2 := free_of_heap hb9 2
      obtain ⟨F, hF, r0, r1, r2, hri, hfb⟩ := dc_put (e := ex + ey) hr15 hb9
      have HR9 := Lib.hid hri; have HFB := Lib.hid (hfb w.heap.size w (by omega) (belowT HBEL.out HBX.out))
      clear hri hfb hr15
      simp only [At, List.foldl_cons, List.foldl_nil, List.setIfInBounds_toArray, List.set_cons_zero, List.set_cons_succ]
      refine ⟨?_⟩
      go_simp
      (try rw [hF])
      exact HK.out (upd us 15 (.agg #[.slice A15 n15 q15, .bool b15, .int .i64 (ex + ey)])) _ (by rw [upd_self e15]; exact HJ.out.store (by kernel_rfl) HLI.out HP.out (⟨A15, n15, q15, b15, r0, r1, r2, HR9.out, HFB.out⟩))
  case rest =>
    obtain ⟨A, n, c, b, r0, r1, r2, HR, HB⟩ := hcut
    go_wp2_with fail
    refine bodyPost_ret (v := .agg #[.slice A n c, .bool b, .int .i64 (ex + ey)]) (by simp [results, Tryz.results51, go_sem, r0, r1, r2]) rfl ?_
    exact ⟨_, rfl, ⟨A, n, c, b, rfl, HR.out⟩, HB.out⟩

end Go.Proofs.YtekbfommnmikbaaGreatDoor
/- Plain mathematics: what is rounded may be cut behind 13 digits, if one more digit says that something was cut off. No program in sight. -/
namespace Go.Proofs.YtekbfommnmikbaaGreatDoor
set_option linter.unusedVariables false
set_option linter.unusedSimpArgs false

/-- Rounded up at a half: something follows. -/
def rup (A k : Nat) : Nat := A / 10 ^ k + (if 10 ^ k ≤ 2 * (A % 10 ^ k) then 1 else 0)
/-- A number that is a bit more than A times 10^F, rounded. -/
def stk (A : Nat) (F : Int) : Option (Nat × Int) :=
  if (nd A : Int) + F < -100 then some (0, 0)
  else if (nd A : Int) + F = -100 then (if 10 ^ nd A ≤ 2 * A then some (100000000000, -111) else some (0, 0))
  else fit (rup A (nd A - 12)) ((nd A : Int) - 12 + F)
theorem even_pow {k : Nat} (h : 0 < k) : 10 ^ k % 2 = 0 := by
  obtain ⟨j, rfl⟩ : ∃ j, k = j + 1 := ⟨k - 1, by omega⟩
  rw [Nat.pow_succ]; omega
theorem half_more {k d r B : Nat} (hk : 0 < k) (hB : 0 < B) (hB2 : B < 10 ^ d) : 10 ^ (k + d) < 2 * (r * 10 ^ d + B) ↔ 10 ^ k ≤ 2 * r := by
  have he := even_pow hk
  rw [Nat.pow_add]
  constructor
  · intro h
    by_cases h2 : 10 ^ k ≤ 2 * r
    · exact h2
    · exfalso
      have h3 : 2 * r + 2 ≤ 10 ^ k := by omega
      have h4 := Nat.mul_le_mul_right (10 ^ d) h3
      rw [Nat.add_mul, Nat.mul_assoc] at h4
      omega
  · intro h
    have h4 := Nat.mul_le_mul_right (10 ^ d) h
    rw [Nat.mul_assoc] at h4
    omega
theorem half_ne {k d r B : Nat} (hk : 0 < k) (hB : 0 < B) (hB2 : B < 10 ^ d) : ¬ 2 * (r * 10 ^ d + B) = 10 ^ (k + d) := by
  intro h
  have := half_more (r := r) hk hB hB2
  by_cases h2 : 10 ^ k ≤ 2 * r
  · have := this.2 h2; omega
  · have he := even_pow hk
    have h3 : 2 * r + 2 ≤ 10 ^ k := by omega
    have h4 := Nat.mul_le_mul_right (10 ^ d) h3
    rw [Nat.pow_add] at h
    rw [Nat.add_mul, Nat.mul_assoc] at h4
    omega
theorem rdiv_up {A B k d : Nat} (hk : 0 < k) (hB : 0 < B) (hB2 : B < 10 ^ d) : rdiv (A * 10 ^ d + B) (k + d) = rup A k := by
  have hp : 0 < 10 ^ d := Nat.pow_pos (by decide)
  have e1 : (A * 10 ^ d + B) / 10 ^ (k + d) = A / 10 ^ k := by
    rw [Nat.pow_add, Nat.mul_comm (10 ^ k), ← Nat.div_div_eq_div_mul, Nat.add_comm, Nat.add_mul_div_right _ _ hp, Nat.div_eq_of_lt hB2, Nat.zero_add]
  have e2 : (A * 10 ^ d + B) % 10 ^ (k + d) = A % 10 ^ k * 10 ^ d + B := by
    have h1 := Nat.div_add_mod (A * 10 ^ d + B) (10 ^ (k + d))
    have h2 := Nat.div_add_mod A (10 ^ k)
    rw [e1] at h1
    have h3 : A * 10 ^ d = 10 ^ (k + d) * (A / 10 ^ k) + A % 10 ^ k * 10 ^ d := by
      rw [Nat.pow_add]
      generalize A / 10 ^ k = q at *
      generalize A % 10 ^ k = r at *
      subst h2
      grind
    omega
  unfold rdiv rup halfUp
  rw [e1, e2]
  congr 1
  by_cases h : 10 ^ k ≤ 2 * (A % 10 ^ k)
  · rw [if_pos h, if_pos (.inl ((half_more hk hB hB2).2 h))]
  · rw [if_neg h, if_neg]
    rintro (h2 | ⟨h2, _⟩)
    · exact h ((half_more hk hB hB2).1 h2)
    · exact half_ne hk hB hB2 h2
theorem nd_more {A B d : Nat} (hA : 0 < A) (hB2 : B < 10 ^ d) : nd (A * 10 ^ d + B) = nd A + d := by
  have a := nd_pos hA
  have b := nd_low hA
  have c := lt_nd A
  obtain ⟨j, hj⟩ : ∃ j, nd A = j + 1 := ⟨nd A - 1, by omega⟩
  rw [hj] at b c ⊢
  rw [show j + 1 - 1 = j from rfl] at b
  rw [show j + 1 + d = (j + d) + 1 by omega]
  refine nd_eq ?_ ?_
  · rw [Nat.pow_add]
    have := Nat.mul_le_mul_right (10 ^ d) b
    omega
  · rw [show j + d + 1 = (j + 1) + d by omega, Nat.pow_add]
    have := Nat.mul_le_mul_right (10 ^ d) (show A + 1 ≤ 10 ^ (j + 1) by omega)
    rw [Nat.add_mul, Nat.one_mul] at this
    omega
theorem rnd_stk {A B d : Nat} (hA : 1000000000000 ≤ A) (hB : 0 < B) (hB2 : B < 10 ^ d) (E : Int) : rnd (A * 10 ^ d + B) E = stk A (E + d) := by
  have hn : 12 < nd A := (nd_gt A 12).2 hA
  have h1 := nd_more (show 0 < A by omega) hB2
  have hm : man12 (A * 10 ^ d + B) = rup A (nd A - 12) := by
    unfold man12
    rw [h1, if_neg (by omega), show nd A + d - 12 = (nd A - 12) + d by omega, rdiv_up (by omega) hB hB2]
  unfold rnd stk
  rw [h1, hm]
  have c1 : (A * 10 ^ d + B = 0 ∨ ((nd A + d : Nat) : Int) + E < -100) ↔ (nd A : Int) + (E + d) < -100 := by
    constructor
    · rintro (h | h) <;> omega
    · intro h; exact .inr (by omega)
  have c2 : ((nd A + d : Nat) : Int) + E = -100 ↔ (nd A : Int) + (E + d) = -100 := by omega
  have c3 : 10 ^ (nd A + d) < 2 * (A * 10 ^ d + B) ↔ 10 ^ nd A ≤ 2 * A := half_more (by omega) hB hB2
  have c4 : ((nd A + d : Nat) : Int) - 12 + E = (nd A : Int) - 12 + (E + d) := by omega
  simp only [c1, c2, c3, c4]
/-- The law. -/
theorem sticky {A B d : Nat} (hA : 1000000000000 ≤ A) (hB2 : B < 10 ^ d) (E : Int) : rnd (A * 10 ^ d + B) E = rnd (10 * A + (if B = 0 then 0 else 1)) (E + d - 1) := by
  by_cases h : B = 0
  · subst h
    have a := rnd_mul A d (E + d)
    have b := rnd_mul A 1 (E + d)
    rw [show E + (d : Int) - (d : Int) = E by omega] at a
    rw [if_pos rfl, Nat.add_zero, Nat.add_zero, a, ← b, Nat.pow_one, Nat.mul_comm]
    rfl
  · rw [if_neg h, rnd_stk hA (by omega) hB2]
    have := rnd_stk (A := A) (B := 1) (d := 1) hA (by decide) (by decide) (E + d - 1)
    rw [Nat.pow_one, Nat.mul_comm] at this
    rw [this]
    congr 1
    omega
/-- The sign of something is kept by a cut. -/
theorem sticky2 {A B d : Nat} (s : Bool) (hA : 1000000000000 ≤ A) (hB2 : B < 10 ^ d) (hd : 0 < d) (E : Int) : rnd (10 * (A * 10 ^ d + B) + (if s then 1 else 0)) E = rnd (10 * A + (if B = 0 ∧ s = false then 0 else 1)) (E + d) := by
  have e1 : 10 * (A * 10 ^ d + B) + (if s then 1 else 0) = A * 10 ^ (d + 1) + (10 * B + (if s then 1 else 0)) := by
    rw [Nat.pow_succ]; generalize 10 ^ d = p; generalize (if s then 1 else 0 : Nat) = x; rw [Nat.mul_add, Nat.add_assoc, Nat.mul_left_comm, Nat.mul_comm 10 p]
  have h2 : 10 * B + (if s then 1 else 0) < 10 ^ (d + 1) := by
    rw [Nat.pow_succ]; split <;> omega
  rw [e1, sticky hA h2 E]
  have e3 : (if 10 * B + (if s then 1 else 0) = 0 then 0 else 1 : Nat) = (if B = 0 ∧ s = false then 0 else 1) := by
    by_cases h : B = 0
    · subst h; cases s <;> rfl
    · rw [if_neg (by omega), if_neg (fun x => h x.1)]
  rw [e3]
  congr 1
  omega
end Go.Proofs.YtekbfommnmikbaaGreatDoor
/- Plain laws of the root: what it is, and that it keeps the order. -/
namespace Go.Proofs.YtekbfommnmikbaaGreatDoor
set_option linter.unusedVariables false
set_option linter.unusedSimpArgs false

/-- The number whose root is taken. -/
def rootJ (xe : Int) : Nat := if xe.tmod 2 = 0 then 16 else 15
theorem take_two {ds : List Int} (k : Nat) : ds.take (2 * (k + 1)) = if 2 * k + 1 < ds.length then ds.take (2 * k) ++ [ds[2 * k]?.getD 0, ds[2 * k + 1]?.getD 0] else ds.take (2 * (k + 1)) := by
  split
  · rename_i h
    rw [show 2 * (k + 1) = 2 * k + 1 + 1 by omega, List.take_succ_eq_append_getElem h, List.take_succ_eq_append_getElem (by omega : 2 * k < ds.length), List.append_assoc, List.getElem?_eq_getElem h, List.getElem?_eq_getElem (by omega : 2 * k < ds.length)]
    rfl
  · rfl
theorem pairs_vd {ds : List Int} (hi : InR 10 ds) {h : Nat} (hl : ds.length = 2 * h) : ∀ k, k ≤ h → ((pairs ds k : Nat) : Int) = vd (ds.take (2 * k))
  | 0, _ => rfl
  | k + 1, hk => by
    have ih := pairs_vd hi hl k (by omega)
    rw [take_two, if_pos (by omega), vd_append, ← ih, pairs, Int.natCast_add, Int.natCast_mul, pairAt_int hi (by omega)]
    simp [vd]
    omega
theorem pairs_more {ds : List Int} {h : Nat} (hl : ds.length = 2 * h) : ∀ j, pairs ds (h + j) = pairs ds h * 100 ^ j
  | 0 => by simp
  | j + 1 => by
    have h0 : pairAt ds (h + j) = 0 := by unfold pairAt; rw [if_neg (by omega)]
    rw [show h + (j + 1) = (h + j) + 1 by omega, pairs, h0, pairs_more hl j, Nat.pow_succ]
    generalize 100 ^ j = p; grind
theorem rootL_facts {M : Nat} {xe : Int} (h : RV M xe) (h0 : 0 < M) : InR 10 (rootL M xe) ∧ pairs (rootL M xe) 14 = M * 10 ^ rootJ xe ∧ ((rootL M xe).length = 12 ∨ (rootL M xe).length = 14) ∧ 2 * rootX M xe = xe - rootJ xe := by
  have h12 : (dg 10 M).reverse.length = 12 := by
    rw [List.length_reverse]
    rcases RV_nd h with h | h
    · exact absurd (nd_pos h0) (by omega)
    · exact h
  have hin := inR_dgR M
  have hv := vd_dg M
  have hdm := Int.mul_tdiv_add_tmod xe 2
  unfold rootX rootJ rootE rootL
  by_cases hp : xe.tmod 2 = 0
  · simp only [if_pos hp]
    refine ⟨hin, ?_, .inl h12, by rw [h12]; omega⟩
    have a := pairs_vd hin (h := 6) (by omega) 6 (Nat.le_refl _)
    rw [List.take_of_length_le (by omega), hv] at a
    have b := pairs_more (ds := (dg 10 M).reverse) (h := 6) (by omega) 8
    rw [b, Int.ofNat_inj.1 a]
  · simp only [if_neg hp]
    have hin2 : InR 10 ([0] ++ (dg 10 M).reverse ++ [0]) := ((InR.cons (by decide) (by decide) (InR.nil _)).append hin).append (InR.cons (by decide) (by decide) (InR.nil _))
    have hl2 : ([0] ++ (dg 10 M).reverse ++ [0]).length = 14 := by rw [List.length_append, List.length_append, h12]; rfl
    have hdm2 := Int.mul_tdiv_add_tmod (xe - 1) 2
    have ht : xe.tmod 2 = 1 ∨ xe.tmod 2 = -1 := by
      have h4 : -2 < xe.tmod 2 ∧ xe.tmod 2 < 2 := by
        rcases Int.le_total 0 xe with h | h
        · obtain ⟨k, rfl⟩ := Int.eq_ofNat_of_zero_le h
          rw [show ((k : Int).tmod 2) = ((k % 2 : Nat) : Int) from rfl]; omega
        · obtain ⟨k, hk⟩ := Int.eq_ofNat_of_zero_le (show 0 ≤ -xe by omega)
          obtain rfl : xe = -(k : Int) := by omega
          rw [Int.neg_tmod, show ((k : Int).tmod 2) = ((k % 2 : Nat) : Int) from rfl]; omega
      omega
    have ht2 : (xe - 1).tmod 2 = 0 := by
      have h4 : -2 < (xe - 1).tmod 2 ∧ (xe - 1).tmod 2 < 2 := by
        rcases Int.le_total 0 (xe - 1) with h | h
        · obtain ⟨k, hk⟩ := Int.eq_ofNat_of_zero_le h
          rw [hk, show ((k : Int).tmod 2) = ((k % 2 : Nat) : Int) from rfl]; omega
        · obtain ⟨k, hk⟩ := Int.eq_ofNat_of_zero_le (show 0 ≤ -(xe - 1) by omega)
          rw [show xe - 1 = -(k : Int) by omega, Int.neg_tmod, show ((k : Int).tmod 2) = ((k % 2 : Nat) : Int) from rfl]; omega
      omega
    refine ⟨hin2, ?_, .inr hl2, by rw [hl2]; omega⟩
    have a := pairs_vd hin2 (h := 7) (by omega) 7 (Nat.le_refl _)
    have e9 : vd ([0] ++ (dg 10 M).reverse ++ [0]) = 10 * (M : Int) := by rw [vd_snoc, List.singleton_append, vd_cons, Int.zero_mul, hv]; omega
    rw [List.take_of_length_le (by omega), e9] at a
    have b := pairs_more (ds := [0] ++ (dg 10 M).reverse ++ [0]) (h := 7) (by omega) 7
    have a2 : pairs ([0] ++ (dg 10 M).reverse ++ [0]) 7 = 10 * M := by omega
    rw [b, a2, show (100 : Nat) ^ 7 = 10 ^ 14 from rfl, Nat.pow_succ 10 14]
    generalize (10 : Nat) ^ 14 = p; grind
/-- The root in one form. -/
theorem rootV_form {M : Nat} {xe : Int} (h : RV M xe) (h0 : 0 < M) : ∃ R S, RootAt (M * 10 ^ rootJ xe) R S ∧ rootV M xe = rnd (10 * R + (if S = 0 then 0 else 1)) (rootX M xe - 1) := by
  obtain ⟨hi, hp, hl, hx⟩ := rootL_facts h h0
  have hr := rs_root hi 14
  rw [hp] at hr
  refine ⟨_, _, hr, ?_⟩
  have hf : vd (firsts (ritem (rootL M xe)) 14) = ((rs (rootL M xe) 14).1 : Int) := ritem_vd 14
  have hm : lastMore (ritem (rootL M xe)) 14 = decide (0 < (rs (rootL M xe) 14).2) := by
    show (ritem (rootL M xe) 13).2 = _
    unfold ritem
    simp only []
    rw [show decide ((2 * (13 : Nat) + 2 : Int) < ((rootL M xe).length : Int)) = false from by rw [decide_eq_false_iff_not]; omega, Bool.or_false]
    apply decide_eq_decide.2
    simp only [Nat.reduceAdd]
    omega
  unfold rootV
  obtain ⟨R, hR⟩ : ∃ R, (rs (rootL M xe) 14).1 = R := ⟨_, rfl⟩
  obtain ⟨S, hS⟩ : ∃ S, (rs (rootL M xe) 14).2 = S := ⟨_, rfl⟩
  rw [hm, hS, hR]
  rw [hR] at hf
  by_cases hs : S = 0
  · rw [if_pos hs, show decide (0 < S) = false from decide_eq_false (by omega)]
    show rnd (vd (firsts (ritem (rootL M xe)) 14)).toNat (rootX M xe) = _
    rw [hf, Int.toNat_natCast, Nat.add_zero]
    have := rnd_mul R 1 (rootX M xe)
    rw [Nat.pow_one, Nat.mul_comm] at this
    exact this.symm
  · rw [if_neg hs, show decide (0 < S) = true from decide_eq_true (by omega)]
    show rnd (vd (firsts (ritem (rootL M xe)) 14 ++ [1])).toNat (rootX M xe - 1) = _
    rw [vd_snoc, hf]
    congr 1
/-- The first digits of the root of more digits. -/
theorem rootAt_cut {P R S R' S' d : Nat} (h : RootAt P R S) (h' : RootAt (P * 100 ^ d) R' S') : ∃ B, R' = R * 10 ^ d + B ∧ B < 10 ^ d ∧ (S = 0 ↔ B = 0 ∧ S' = 0) := by
  have a := rootAt_le h
  have b := rootAt_le h'
  have e : (100 : Nat) ^ d = 10 ^ d * 10 ^ d := by rw [← Nat.mul_pow]
  have hp : 0 < 10 ^ d := Nat.pow_pos (by decide)
  rw [e] at b h'
  have hS := h.1
  have hS' := h'.1
  generalize 10 ^ d = p at *
  have h1 : R * p ≤ R' := by
    rcases Nat.lt_or_ge R' (R * p) with h3 | h3
    · exfalso
      have h4 := Nat.mul_le_mul (show R' + 1 ≤ R * p from h3) (show R' + 1 ≤ R * p from h3)
      have h5 := Nat.mul_le_mul_right (p * p) a.1
      have h6 : R * p * (R * p) = R * R * (p * p) := by grind
      omega
    · exact h3
  have h2 : R' < (R + 1) * p := by
    rcases Nat.lt_or_ge R' ((R + 1) * p) with h3 | h3
    · exact h3
    · exfalso
      have h4 := Nat.mul_le_mul h3 h3
      have h5 := Nat.mul_le_mul_right (p * p) (show P + 1 ≤ (R + 1) * (R + 1) from a.2)
      have h6 : (R + 1) * p * ((R + 1) * p) = (R + 1) * (R + 1) * (p * p) := by grind
      have h7 : 0 < p * p := Nat.mul_pos hp hp
      rw [Nat.add_mul] at h5
      omega
  rw [Nat.add_mul, Nat.one_mul] at h2
  refine ⟨R' - R * p, by omega, by omega, ?_⟩
  constructor
  · intro h0
    subst h0
    have hPP : P = R * R := by omega
    subst hPP
    have h6 : R * R * (p * p) = R * p * (R * p) := by grind
    have h8 : R' = R * p := by
      rcases Nat.lt_or_ge (R * p) R' with h3 | h3
      · have := Nat.mul_le_mul (show R * p + 1 ≤ R' from h3) (show R * p + 1 ≤ R' from h3)
        have h9 : (R * p + 1) * (R * p + 1) = R * p * (R * p) + 2 * (R * p) + 1 := by grind
        omega
      · omega
    subst h8
    omega
  · rintro ⟨h3, h4⟩
    have h5 : R' = R * p := by omega
    subst h5
    have h6 : R * p * (R * p) = R * R * (p * p) := by grind
    have h7 : R * R * (p * p) = P * (p * p) := by omega
    have h8 : 0 < p * p := Nat.mul_pos hp hp
    have := Nat.eq_of_mul_eq_mul_right h8 h7
    omega
end Go.Proofs.YtekbfommnmikbaaGreatDoor
/- Plain laws: the operations on reals keep the order. -/
namespace Go.Proofs.YtekbfommnmikbaaGreatDoor
set_option linter.unusedVariables false
set_option linter.unusedSimpArgs false

/-- A result and its error. -/
def resS : Option (Int × Int) → Value
  | some (a, b) => .tuple #[.agg #[.int .i64 a, .int .i64 b], .int .i64 0]
  | none => .tuple #[.agg #[.int .i64 0, .int .i64 0], .int .i64 3]
theorem resR_sgo (s : Bool) (o : Option (Nat × Int)) : resR s o = resS (sgo s o) := by
  rcases o with _ | ⟨m, x⟩ <;> rfl
theorem resR_rndS (v e : Int) : resR (decide (v < 0)) (rnd v.natAbs e) = resS (rndS v e) := resR_sgo _ _
theorem mul_form {xm xe ym ye : Int} (hx : RV xm.natAbs xe) (hy : RV ym.natAbs ye) : mulX xm xe ym ye = resS (rndS (xm * ym * 10 ^ (xe + ye + 222).toNat) (-222)) := by
  unfold mulX doneR
  rw [if_pos ⟨hx, hy⟩, if_pos rfl]
  unfold prodR
  have e1 : (xm * ym * 10 ^ (xe + ye + 222).toNat).natAbs = xm.natAbs * ym.natAbs * 10 ^ (xe + ye + 222).toNat := by
    rw [Int.natAbs_mul, Int.natAbs_mul, Int.natAbs_pow]; rfl
  have hp : (0 : Int) < 10 ^ (xe + ye + 222).toNat := Int.pow_pos (by decide)
  unfold rndS
  rw [e1, resR_sgo]
  by_cases h0 : xm.natAbs * ym.natAbs * 10 ^ (xe + ye + 222).toNat = 0
  · rw [h0, rnd_zero]
    unfold sgo sgm
    simp
  · congr 2
    generalize (10 : Int) ^ (xe + ye + 222).toNat = p at *
    have h2 : xm ≠ 0 := fun e => h0 (by subst e; simp)
    have h3 : ym ≠ 0 := fun e => h0 (by subst e; simp)
    by_cases s1 : xm < 0
    · by_cases s2 : ym < 0
      · have := Int.mul_pos (Int.mul_pos_of_neg_of_neg s1 s2) hp
        rw [show decide (xm * ym * p < 0) = false from decide_eq_false (by omega), decide_eq_true s1, decide_eq_true s2]; rfl
      · have := Int.mul_neg_of_neg_of_pos (Int.mul_neg_of_neg_of_pos s1 (show 0 < ym by omega)) hp
        rw [decide_eq_true this, decide_eq_true s1, decide_eq_false s2]; rfl
    · by_cases s2 : ym < 0
      · have := Int.mul_neg_of_neg_of_pos (Int.mul_neg_of_pos_of_neg (show 0 < xm by omega) s2) hp
        rw [decide_eq_true this, decide_eq_false s1, decide_eq_true s2]; rfl
      · have := Int.mul_pos (Int.mul_pos (show 0 < xm by omega) (show 0 < ym by omega)) hp
        rw [show decide (xm * ym * p < 0) = false from decide_eq_false (by omega), decide_eq_false s1, decide_eq_false s2]; rfl
end Go.Proofs.YtekbfommnmikbaaGreatDoor
/- Plain laws: the root keeps the order; the floor. -/
namespace Go.Proofs.YtekbfommnmikbaaGreatDoor
set_option linter.unusedVariables false
set_option linter.unusedSimpArgs false

theorem root_size {M : Nat} {xe : Int} (h : RV M xe) (h0 : 0 < M) {R S : Nat} (hr : RootAt (M * 10 ^ rootJ xe) R S) : 10000000000000 ≤ R ∧ R < 100000000000000 := by
  have hM : 100000000000 ≤ M ∧ M < 1000000000000 := by unfold RV at h; omega
  have a := rootAt_le hr
  have hj : rootJ xe = 16 ∨ rootJ xe = 15 := by unfold rootJ; split <;> simp
  have b : 100000000000000000000000000 ≤ M * 10 ^ rootJ xe ∧ M * 10 ^ rootJ xe < 10000000000000000000000000000 := by
    rcases hj with hj | hj <;> rw [hj] <;> omega
  constructor
  · rcases Nat.lt_or_ge R 10000000000000 with h1 | h1
    · have := Nat.mul_le_mul (show R + 1 ≤ 10000000000000 from h1) (show R + 1 ≤ 10000000000000 from h1)
      omega
    · exact h1
  · rcases Nat.lt_or_ge R 100000000000000 with h1 | h1
    · exact h1
    · have := Nat.mul_le_mul h1 h1
      omega
end Go.Proofs.YtekbfommnmikbaaGreatDoor
/- The reference of layer 2: Sum, more. -/
namespace Go.Proofs.YtekbfommnmikbaaGreatDoor
set_option linter.unusedVariables false
set_option linter.unusedSimpArgs false
open Go.RowKit Go.Shelf Go.Proofs
attribute [local go_sem ↓] Go.wp_at_zero Go.wp_at_succ

/-- Digits lie in no box whose whole numbers are at most 0. -/
theorem dg_off2 {w F : World} {v : Value} {n g : Nat} {cs : Array Value} {t : TypeId} {fz : Nat × Nat} (h : Dg 10 w v n) (hbox : w.heap[g]? = some (.cells cs t fz)) (hcs : ∀ (i : Nat) z, cs[i]? = some (.int .i64 z) → z ≤ 0) (hF : ∀ k, k ≠ g → F.heap[k]? = w.heap[k]?) : Dg 10 F v n := by
  obtain ⟨A, c, rfl, h1, h2, hr⟩ := h
  by_cases h0 : dg 10 n = []
  · refine ⟨A, c, rfl, h1, h2, ?_⟩
    rw [h0]; exact Row.nil
  · refine Dg.same ⟨A, c, rfl, h1, h2, hr⟩ fun k hk => hF k fun e => ?_
    subst e
    have hl : 0 < (dg 10 n).length := List.length_pos_iff.2 h0
    obtain ⟨a, rfl, hc⟩ := hr ((dg 10 n).length - 1) (by omega)
    have hb : a.block = k := by simpa [Value.ownBlock] using hk
    unfold World.cell? at hc
    rw [show (a.add ((dg 10 n).length - 1)).block = k from (show (a.add ((dg 10 n).length - 1)).block = a.block by first | rfl | (cases a; rfl) | (cases a; simp only [Addr.add]; split <;> rfl)).trans hb, hbox] at hc
    simp only [] at hc
    split at hc
    · cases hc
    · have h3 := hcs _ _ hc
      have h4 := last_of_noTop (dg_noTop (b := 10) (by decide) n) ((dg 10 n).length - 1) (by omega)
      have h5 := (dg_inR (b := 10) (by decide) n).at_ (by decide) ((dg 10 n).length - 1)
      rw [List.getD_eq_getElem?_getD] at h4 h5
      omega
theorem dc_put2 {w : World} {g : Nat} {t : TypeId} {A A' : Option Addr} {n c n' c' : Nat} {b b' : Bool} {z e e' : Int} (h : Ri w (.agg #[.slice A n c, .bool b]) z) (hb : w.heap[g]? = some (.cells #[.slice A' n' c', .bool b', .int .i64 e'] t (0, 0))) (he : e' ≤ 0) :
    ∃ F, ((w.setCell ⟨g, 0, none⟩ (.slice A n c)).setCell ⟨g, 1, none⟩ (.bool b)).setCell ⟨g, 2, none⟩ (.int .i64 e) = F ∧ F.heap[g]? = some (.cells #[.slice A n c, .bool b, .int .i64 e] t (0, 0)) ∧ Ri F (.agg #[.slice A n c, .bool b]) z ∧ (∀ k, k ≠ g → F.heap[k]? = w.heap[k]?) ∧ (∀ k w0, k ≤ g → Below k w0 w → Below k w0 F) := by
  have h9 := putB (putB (putB hb 0 (.slice A n c)) 1 (.bool b)) 2 (.int .i64 e)
  have hoff : ∀ k, k ≠ g → (((w.setCell ⟨g, 0, none⟩ (.slice A n c)).setCell ⟨g, 1, none⟩ (.bool b)).setCell ⟨g, 2, none⟩ (.int .i64 e)).heap[k]? = w.heap[k]? := fun k hk => by rw [Below.heap_setCell _ _ _ _ hk, Below.heap_setCell _ _ _ _ hk, Below.heap_setCell _ _ _ _ hk]
  refine ⟨_, rfl, by simpa using h9, ?_, hoff, fun k w0 hk hb => ((hb.setCell hk _).setCell hk _).setCell hk _⟩
  obtain ⟨p, e1, hd⟩ := h
  refine ⟨p, e1, dg_off2 hd hb ?_ hoff⟩
  intro i z hi
  match i with
  | 0 => simp at hi
  | 1 => simp at hi
  | 2 => simp at hi; omega
  | i + 3 => simp at hi
theorem ri_nil (w : World) : Ri w (.agg #[.slice none 0 0, .bool false]) 0 := ⟨.slice none 0 0, rfl, none, 0, by rw [Int.natAbs_zero, dg_zero]; rfl, by rw [Int.natAbs_zero, dg_zero]; exact Nat.le_refl _, by decide, by rw [Int.natAbs_zero, dg_zero]; exact Row.nil⟩
theorem abs_lt_pow {x : Int} {E : Nat} (h : -(10 ^ E) < x ∧ x < 10 ^ E) : x.natAbs < 10 ^ E := by
  have e9 : ((10 ^ E : Nat) : Int) = 10 ^ E := by rw [Int.natCast_pow]; rfl
  rw [← e9] at h
  omega
theorem few_sum {l : List (Int × Int)} (hv : ∀ p ∈ l, RV p.1.natAbs p.2) (hl : l.length ≤ 1000) {z e : Int} {k : Nat} (h : z * 10 ^ (e + 222).toNat = sumV (l.take k)) : (dg 10 z.natAbs).length ≤ 1000 := by
  have h1 := sumV_room (l := l.take k) (fun p hp => hv p (List.mem_of_mem_take hp)) (by rw [List.length_take]; omega)
  rw [← h] at h1
  have h2 : z.natAbs < 10 ^ 430 := by
    have h3 := abs_lt_pow h1
    rw [Int.natAbs_mul, Int.natAbs_pow] at h3
    have h4 : 0 < (Int.natAbs 10) ^ (e + 222).toNat := Nat.pow_pos (by decide)
    have := Nat.le_mul_of_pos_right z.natAbs h4
    omega
  have := (dg_length_le (b := 10) (by decide) z.natAbs 430).2 h2
  omega
theorem sum_next {z e y ey S : Int} (he : -111 ≤ e) (hy : -111 ≤ ey) (h : z * 10 ^ (e + 222).toNat = S) : (z * 10 ^ (e - mn e ey).toNat + y * 10 ^ (ey - mn e ey).toNat) * 10 ^ (mn e ey + 222).toNat = S + y * 10 ^ (ey + 222).toNat := by
  have hm := mn_le e ey
  have hm0 : -111 ≤ mn e ey := by unfold mn; split <;> omega
  rw [Int.add_mul, Int.mul_assoc, Int.mul_assoc, ← Int.pow_add, ← Int.pow_add, ← h]
  congr 3 <;> omega

set_option maxRecDepth 100000 in
set_option maxHeartbeats 8000000 in
theorem ssum_c (A : Option Addr) (c : Nat) (l : List (Int × Int)) (w : World) (hr : Reals w A l) (hv : ∀ p ∈ l, RV p.1.natAbs p.2) (hl : l.length ≤ 1000) :
    Calls Tryz.prog 37 #[.slice A l.length c] w fun en w' => en = .returned (rdV (rndS (sumV l) (-222))) ∧ Below w.heap.size w w' := by
  have HR := Lib.hid hr; have HV := Lib.hid hv; have HLL := Lib.hid hl
  obtain ⟨aa, bb, kk, hf⟩ : ∃ a b k, rdV (rndS (sumV l) (-222)) = .agg #[.int .i64 a, .int .i64 b, .bool k] := by
    rcases rndS (sumV l) (-222) with _ | ⟨a, b⟩
    · exact ⟨0, 0, false, rfl⟩
    · exact ⟨a, b, true, rfl⟩
  rw [hf]
  have HF0 := Lib.hid hf
  obtain ⟨L, hL⟩ : ∃ L, l.length = L := ⟨_, rfl⟩
  rw [hL] at hl ⊢
  have HL := Lib.hid hL
  clear hr hv hL hf
  go_enter Tryz.func37, Tryz.ntmps37
  go_wp2_with fail
  go_loopg [4] L (fun g iv wr => ∃ (k : Nat) (A1 : Option Addr) (n1 c1 : Nat) (b1 : Bool) (z e : Int), iv = .int .i64 (k : Int) ∧ k + g = L ∧ Hid (wr.heap[w.heap.size]? = some (.cells #[.int .i64 0, .int .i64 0, .bool false] 30 (0, 0))) ∧ Hid (wr.heap[w.heap.size + 1]? = some (.cells #[.slice A1 n1 c1, .bool b1, .int .i64 e] 60 (0, 0))) ∧ Hid (Ri wr (.agg #[.slice A1 n1 c1, .bool b1]) z) ∧ Hid (z * 10 ^ (e + 222).toNat = sumV (l.take k)) ∧ -111 ≤ e ∧ e ≤ 0 ∧ Hid (Below w.heap.size w wr))
  case atStart => exact ⟨0, none, 0, 0, false, 0, 0, rfl, by omega, heap_old _ (heap_alloc_new _ _), heap_new' _ _ _ (by simp), ri_nil _, by show _ = _; rw [List.take_zero, Int.zero_mul]; rfl, by decide, by decide, ((Below.refl _ _).alloc (Nat.le_refl _) _).alloc (by simp) _⟩
  case round =>
    obtain ⟨k, A1, n1, c1, b1, z, e, rfl, hkg, HX, HA, HZ, HVL, he0, he1, HB⟩ := hrel
    obtain ⟨d0, d1, d2⟩ := three_cells HA.out
    have hfew := few_sum HV.out HLL.out HVL.out
    by_cases hg : gk = 0
    · obtain rfl : k = L := by omega
      have hrs : rndS z e = rndS (sumV l) (-222) := by
        have h1 := rndS_scale z (show (-222 : Int) ≤ e by omega)
        rw [show e - -222 = e + 222 by omega, HVL.out, List.take_of_length_le (by rw [HL.out]; exact Nat.le_refl _)] at h1
        exact h1.symm
      have HRN := Lib.hid (fun w' hd => sround_c (.agg #[.slice A1 n1 c1, .bool b1, .int .i64 e]) z e w' hd (by omega) (by omega) (by omega))
      rw [hrs, HF0.out] at HRN
      clear hrs hfew hg hkg
      go_wp2_with (go_at_call 50; refine (HRN.out _ ⟨A1, n1, c1, b1, rfl, HZ.out⟩).mono ?_; rintro en w3 ⟨rfl, hbz⟩; have hhx := heapB hbz HX.out; obtain ⟨x0, x1, x2⟩ := three_cells hhx; have y0 := free_of_heap hhx 0; have y1 := free_of_heap hhx 1; have y2 := free_of_heap hhx 2; have HX3 := Lib.hid hhx; have HB3 := Lib.hid (belowT HB.out hbz); clear hbz hhx)
      have h9 := putB (putB (putB HX3.out 0 (.int .i64 aa)) 1 (.int .i64 bb)) 2 (.bool kk)
      have r0 := cell_of_heap h9 0; have r1 := cell_of_heap h9 1; have r2 := cell_of_heap h9 2
      simp at r0 r1 r2
      refine bodyPost_ret (v := .agg #[.int .i64 aa, .int .i64 bb, .bool kk]) (by simp [results, Tryz.results37, go_sem, r0, r1, r2]) rfl ?_
      exact ⟨rfl, ((HB3.out.setCell (p := ⟨w.heap.size, 0, none⟩) (Nat.le_refl _) _).setCell (p := ⟨w.heap.size, 1, none⟩) (Nat.le_refl _) _).setCell (p := ⟨w.heap.size, 2, none⟩) (Nat.le_refl _) _⟩
    · obtain ⟨g, rfl⟩ : ∃ g, gk = g + 1 := ⟨gk - 1, by omega⟩
      have hkL : k < L := by omega
      obtain ⟨a, rfl, hc0, hc1⟩ := (HR.out.below HB.out) k (by rw [HL.out]; exact hkL)
      have hmem : l[k]?.getD (0, 0) ∈ l := by rw [List.getElem?_eq_getElem (by rw [HL.out]; exact hkL)]; exact List.getElem_mem _
      have hrv := HV.out _ hmem
      obtain ⟨y, ey, hme⟩ : ∃ m e, l[k]?.getD (0, 0) = (m, e) := ⟨_, _, rfl⟩
      rw [hme] at hc0 hc1 hrv
      dsimp only at hc0 hc1 hrv
      have hc1' : wr.cell? { block := (a.add (k * 2)).block, off := (a.add (k * 2)).off + 1, spot := none } = some (.int .i64 ey) := hc1
      have hya := RV_abs hrv
      have hyf : (dg 10 y.natAbs).length ≤ 1000 := by have := dgR_len hrv; rw [List.length_reverse] at this; omega
      have HOF := Lib.hid (fun w' => sof_c y ey w' (by omega) (by omega))
      have HPL := Lib.hid (fun v1 v2 w' h1 h2 => splus_c v1 v2 z e y ey w' h1 h2 hfew hyf (by omega) (by omega) (by omega) (by omega))
      have hnx := sum_next (y := y) he0 hya.2.1 HVL.out
      obtain ⟨m, hm⟩ : ∃ m, mn e ey = m := ⟨_, rfl⟩
      have hmb : -111 ≤ m ∧ m ≤ 0 := by unfold mn at hm; split at hm <;> omega
      obtain ⟨z2, hz2⟩ : ∃ z2, z * 10 ^ (e - mn e ey).toNat + y * 10 ^ (ey - mn e ey).toNat = z2 := ⟨_, rfl⟩
      rw [hz2, hm] at hnx
      rw [hz2, hm] at HPL
      have HNX : Hid (z2 * 10 ^ (m + 222).toNat = sumV (l.take (k + 1))) := by
        show _ = _
        rw [hnx, drop_take' (by rw [HL.out]; exact hkL) hme, sumV_snoc]
      have hki : (k : Int) < (L : Int) := by omega
      obtain ⟨hm1, hm2⟩ := hmb
      clear hmem hrv hme hya hyf hnx hm hz2 hfew hg
      go_upto_region 5 with fail
      obtain ⟨W, hW⟩ : ∃ W, wr = W := ⟨_, rfl⟩
      rw [hW] at hc0 hc1' d0 d1 d2 HX HA HZ HB ⊢
      clear hW hc1
      have HSTL : StableL [(fun w v => Dc w v (z) (e)), (fun _ v => v = .slice (some a) L c), (fun _ v => v = .int .i64 (k : Int)), (fun _ v => v = .pointer (some (a.add (k * 2)))), (fun _ v => v = .agg #[.int .i64 y, .int .i64 ey]), (fun w v => Dc w v (y) (ey)), (fun w v => Dc w v (z2) (m)), (fun _ _ => True)] := ⟨(fun _ _ _ hb h => Dc.below h hb), (fun _ _ _ _ h => h), (fun _ _ _ _ h => h), (fun _ _ _ _ h => h), (fun _ _ _ _ h => h), (fun _ _ _ hb h => Dc.below h hb), (fun _ _ _ hb h => Dc.below h hb), (fun _ _ _ _ h => h), trivial⟩
      refine wp_region_p [11, 12, 13, 14, 15, 16, 17] [11, 12, 13, 14, 15, 16, 17, 1000] [(fun w v => Dc w v (z) (e)), (fun _ v => v = .slice (some a) L c), (fun _ v => v = .int .i64 (k : Int)), (fun _ v => v = .pointer (some (a.add (k * 2)))), (fun _ v => v = .agg #[.int .i64 y, .int .i64 ey]), (fun w v => Dc w v (y) (ey)), (fun w v => Dc w v (z2) (m)), (fun _ _ => True)] 7 (fun _ wx => ∃ A n c b, Hid (wx.heap[w.heap.size + 1]? = some (.cells #[.slice A n c, .bool b, .int .i64 m] 60 (0, 0))) ∧ Hid (Ri wx (.agg #[.slice A n c, .bool b]) z2) ∧ Hid (wx.heap[w.heap.size]? = some (.cells #[.int .i64 0, .int .i64 0, .bool false] 30 (0, 0))) ∧ Hid (Below w.heap.size w wx)) 8 rfl (by kernel_rfl) (by kernel_rfl) ?_ ⟨?_, ?_, ?_, ?_, ?_, ?_, ?_, ?_, trivial⟩
      · intro l us wx hl hJ
        have HF := Lib.hid (hJ.ended hl (by decide))
        clear hl hJ
        simp only [At, List.foldl_cons, List.foldl_nil, List.setIfInBounds_toArray, List.set_cons_zero, List.set_cons_succ]
        obtain ⟨A9, n9, c9, b9, HA9, HR9, HX9, HB9⟩ := HF.out
        go_wp2_with fail
        go_roundg g
        case measure => omega
        case rel => exact ⟨k + 1, A9, n9, c9, b9, z2, m, by go_num, by omega, HX9.out, HA9.out, HR9.out, HNX.out, hm1, hm2, HB9.out⟩
      · refine opAt rfl ?_
        intro l us wx hJ hp hl K hK
        have HJ := Lib.hid hJ; have HP := Lib.hid hp; have HLI := Lib.hid hl; have HF := Lib.hid (hJ.live hl (by decide)); have HBX := Lib.hid (hJ.below HF.out); have HK := hK
        clear hJ hp hl hK
        simp only [At, List.foldl_cons, List.foldl_nil, List.setIfInBounds_toArray, List.set_cons_zero, List.set_cons_succ] at HK
        have HK := Lib.hid HK
        have d0 := keep_cell HBX.out d0
        have d1 := keep_cell HBX.out d1
        have d2 := keep_cell HBX.out d2
        simp only [At, List.foldl_cons, List.foldl_nil, List.setIfInBounds_toArray, List.set_cons_zero, List.set_cons_succ]
        refine ⟨?_⟩
        go_simp
        exact HK.out (upd us 11 (.agg #[.slice A1 n1 c1, .bool b1, .int .i64 e])) wx (by exact HJ.out.go HSTL (by kernel_rfl) 0 HF.out (by decide) (by decide) HP.out (Below.refl _ _) (.agg #[.slice A1 n1 c1, .bool b1, .int .i64 e]) (⟨A1, n1, c1, b1, rfl, HZ.out.below HBX.out⟩))
      · refine opAt rfl ?_
        intro l us wx hJ hp hl K hK
        have HJ := Lib.hid hJ; have HP := Lib.hid hp; have HLI := Lib.hid hl; have HF := Lib.hid (hJ.live hl (by decide)); have HBX := Lib.hid (hJ.below HF.out); have HK := hK
        clear hJ hp hl hK
        simp only [At, List.foldl_cons, List.foldl_nil, List.setIfInBounds_toArray, List.set_cons_zero, List.set_cons_succ] at HK
        have HK := Lib.hid HK
        simp only [At, List.foldl_cons, List.foldl_nil, List.setIfInBounds_toArray, List.set_cons_zero, List.set_cons_succ]
        refine ⟨?_⟩
        go_simp
        exact HK.out (upd us 12 (.slice (some a) L c)) wx (by exact HJ.out.go HSTL (by kernel_rfl) 1 HF.out (by decide) (by decide) HP.out (Below.refl _ _) (.slice (some a) L c) (rfl))
      · refine opAt rfl ?_
        intro l us wx hJ hp hl K hK
        have HJ := Lib.hid hJ; have HP := Lib.hid hp; have HLI := Lib.hid hl; have HF := Lib.hid (hJ.live hl (by decide)); have HBX := Lib.hid (hJ.below HF.out); have HK := hK
        clear hJ hp hl hK
        simp only [At, List.foldl_cons, List.foldl_nil, List.setIfInBounds_toArray, List.set_cons_zero, List.set_cons_succ] at HK
        have HK := Lib.hid HK
        simp only [At, List.foldl_cons, List.foldl_nil, List.setIfInBounds_toArray, List.set_cons_zero, List.set_cons_succ]
        refine ⟨?_⟩
        go_simp
        exact HK.out (upd us 13 (.int .i64 (k : Int))) wx (by exact HJ.out.go HSTL (by kernel_rfl) 2 HF.out (by decide) (by decide) HP.out (Below.refl _ _) (.int .i64 (k : Int)) (rfl))
      · refine opAt rfl ?_
        intro l us wx hJ hp hl K hK
        have HJ := Lib.hid hJ; have HP := Lib.hid hp; have HLI := Lib.hid hl; have HF := Lib.hid (hJ.live hl (by decide)); have HBX := Lib.hid (hJ.below HF.out); have HK := hK
        clear hJ hp hl hK
        simp only [At, List.foldl_cons, List.foldl_nil, List.setIfInBounds_toArray, List.set_cons_zero, List.set_cons_succ] at HK
        have HK := Lib.hid HK
        have h12 : us 12 = .slice (some a) L c := HJ.out.val HF.out 1 (by decide) (HP.out 1 (by kernel_rfl))
        have h13 : us 13 = .int .i64 (k : Int) := HJ.out.val HF.out 2 (by decide) (HP.out 2 (by kernel_rfl))
        simp only [At, List.foldl_cons, List.foldl_nil, List.setIfInBounds_toArray, List.set_cons_zero, List.set_cons_succ]
        refine ⟨?_⟩
        go_simp
        exact HK.out (upd (upd (upd us 12 (.slice (some a) L c)) 13 (.int .i64 (k : Int))) 14 (.pointer (some (a.add (k * 2))))) wx (by rw [upd_self h12, upd_self h13]; exact HJ.out.go HSTL (by kernel_rfl) 3 HF.out (by decide) (by decide) HP.out (Below.refl _ _) (.pointer (some (a.add (k * 2)))) (rfl))
      · refine opAt rfl ?_
        intro l us wx hJ hp hl K hK
        have HJ := Lib.hid hJ; have HP := Lib.hid hp; have HLI := Lib.hid hl; have HF := Lib.hid (hJ.live hl (by decide)); have HBX := Lib.hid (hJ.below HF.out); have HK := hK
        clear hJ hp hl hK
        simp only [At, List.foldl_cons, List.foldl_nil, List.setIfInBounds_toArray, List.set_cons_zero, List.set_cons_succ] at HK
        have HK := Lib.hid HK
        have h14 : us 14 = .pointer (some (a.add (k * 2))) := HJ.out.val HF.out 3 (by decide) (HP.out 3 (by kernel_rfl))
        have hc0 := keep_cell HBX.out hc0
        have hc1' := keep_cell HBX.out hc1'
        simp only [At, List.foldl_cons, List.foldl_nil, List.setIfInBounds_toArray, List.set_cons_zero, List.set_cons_succ]
        refine ⟨?_⟩
        go_simp
        exact HK.out (upd (upd us 14 (.pointer (some (a.add (k * 2))))) 15 (.agg #[.int .i64 y, .int .i64 ey])) wx (by rw [upd_self h14]; exact HJ.out.go HSTL (by kernel_rfl) 4 HF.out (by decide) (by decide) HP.out (Below.refl _ _) (.agg #[.int .i64 y, .int .i64 ey]) (rfl))
      · refine opAt rfl ?_
        intro l us wx hJ hp hl K hK
        have HJ := Lib.hid hJ; have HP := Lib.hid hp; have HLI := Lib.hid hl; have HF := Lib.hid (hJ.live hl (by decide)); have HBX := Lib.hid (hJ.below HF.out); have HK := hK
        clear hJ hp hl hK
        simp only [At, List.foldl_cons, List.foldl_nil, List.setIfInBounds_toArray, List.set_cons_zero, List.set_cons_succ] at HK
        have HK := Lib.hid HK
        have h15 : us 15 = .agg #[.int .i64 y, .int .i64 ey] := HJ.out.val HF.out 4 (by decide) (HP.out 4 (by kernel_rfl))
        simp only [At, List.foldl_cons, List.foldl_nil, List.setIfInBounds_toArray, List.set_cons_zero, List.set_cons_succ]
        refine ⟨?_⟩
        go_simp
        go_wp2_with ((go_at_call 45; (with_reducible refine (HOF.out _).mono ?_); rintro en w9 ⟨v9, rfl, hv9, hbz⟩; have HV := Lib.hid hv9; clear hv9; have HC := Lib.hid hbz; clear hbz))
        exact HK.out (upd (upd us 15 (.agg #[.int .i64 y, .int .i64 ey])) 16 (v9)) w9 (by rw [upd_self h15]; exact HJ.out.go HSTL (by kernel_rfl) 5 HF.out (by decide) (by decide) HP.out HC.out (v9) (HV.out))
      · refine opAt rfl ?_
        intro l us wx hJ hp hl K hK
        have HJ := Lib.hid hJ; have HP := Lib.hid hp; have HLI := Lib.hid hl; have HF := Lib.hid (hJ.live hl (by decide)); have HBX := Lib.hid (hJ.below HF.out); have HK := hK
        clear hJ hp hl hK
        simp only [At, List.foldl_cons, List.foldl_nil, List.setIfInBounds_toArray, List.set_cons_zero, List.set_cons_succ] at HK
        have HK := Lib.hid HK
        have h11 : Dc wx (us 11) (z) (e) := HJ.out.val HF.out 0 (by decide) (HP.out 0 (by kernel_rfl))
        obtain ⟨A11, n11, q11, b11, e11, hr11⟩ := h11
        have h16 : Dc wx (us 16) (y) (ey) := HJ.out.val HF.out 5 (by decide) (HP.out 5 (by kernel_rfl))
        obtain ⟨A16, n16, q16, b16, e16, hr16⟩ := h16
        have hd11 : Dc wx (.agg #[.slice A11 n11 q11, .bool b11, .int .i64 (e)]) z e := ⟨A11, n11, q11, b11, rfl, hr11⟩
        have hd16 : Dc wx (.agg #[.slice A16 n16 q16, .bool b16, .int .i64 (ey)]) y ey := ⟨A16, n16, q16, b16, rfl, hr16⟩
        have HD := Lib.hid (And.intro hd11 hd16); clear hd11 hd16 hr11 hr16
        simp only [At, List.foldl_cons, List.foldl_nil, List.setIfInBounds_toArray, List.set_cons_zero, List.set_cons_succ]
        refine ⟨?_⟩
        go_simp
        go_wp2_with ((go_at_call 114; (with_reducible refine (HPL.out _ _ _ HD.out.1 HD.out.2).mono ?_); rintro en w9 ⟨v9, rfl, hv9, hbz⟩; have HV := Lib.hid hv9; clear hv9; have HC := Lib.hid hbz; clear hbz))
        exact HK.out (upd (upd (upd us 11 (.agg #[.slice A11 n11 q11, .bool b11, .int .i64 (e)])) 16 (.agg #[.slice A16 n16 q16, .bool b16, .int .i64 (ey)])) 17 (v9)) w9 (by rw [upd_self e11, upd_self e16]; exact HJ.out.go HSTL (by kernel_rfl) 6 HF.out (by decide) (by decide) HP.out HC.out (v9) (HV.out))
      · refine opAt rfl ?_
        intro l us wx hJ hp hl K hK
        have HJ := Lib.hid hJ; have HP := Lib.hid hp; have HLI := Lib.hid hl; have HF := Lib.hid (hJ.live hl (by decide)); have HBX := Lib.hid (hJ.below HF.out); have HK := hK
        clear hJ hp hl hK
        simp only [At, List.foldl_cons, List.foldl_nil, List.setIfInBounds_toArray, List.set_cons_zero, List.set_cons_succ] at HK
        have HK := Lib.hid HK
        have h17 : Dc wx (us 17) (z2) (m) := HJ.out.val HF.out 6 (by decide) (HP.out 6 (by kernel_rfl))
        obtain ⟨A17, n17, q17, b17, e17, hr17⟩ := h17
        have hb9 := heapB HBX.out HA.out
        have hx9 := heapB HBX.out HX.out
        obtain ⟨d0, d1, d2⟩ := three_cells hb9
        have f0 := free_of_heap hb9 0; have f1 := free_of_heap hb9 1; have f2 := free_of_heap hb9 2
        obtain ⟨F, hF, hfh, hri, hoff, hfb⟩ := dc_put2 (e := m) hr17 hb9 he1
        have HR9 := Lib.hid hri; have HFH := Lib.hid hfh; have HFX := Lib.hid ((hoff w.heap.size (by omega)).trans hx9); have HFB := Lib.hid (hfb w.heap.size w (by omega) (belowT HB.out HBX.out))
        clear hri hfb hr17 hfh hoff hb9 hx9
        simp only [At, List.foldl_cons, List.foldl_nil, List.setIfInBounds_toArray, List.set_cons_zero, List.set_cons_succ]
        refine ⟨?_⟩
        go_simp
        (try rw [hF])
        exact HK.out (upd us 17 (.agg #[.slice A17 n17 q17, .bool b17, .int .i64 (m)])) _ (by rw [upd_self e17]; exact HJ.out.store (by kernel_rfl) HLI.out HP.out (⟨A17, n17, q17, b17, HFH.out, HR9.out, HFX.out, HFB.out⟩))
end Go.Proofs.YtekbfommnmikbaaGreatDoor
/- The reference of layer 2: Scale, Places. -/
namespace Go.Proofs.YtekbfommnmikbaaGreatDoor
set_option linter.unusedVariables false
set_option linter.unusedSimpArgs false
open Go.RowKit Go.Shelf Go.Proofs
attribute [local go_sem ↓] Go.wp_at_zero Go.wp_at_succ

end Go.Proofs.YtekbfommnmikbaaGreatDoor
/- The reference of layer 2: more, Over, Root. -/
namespace Go.Proofs.YtekbfommnmikbaaGreatDoor
set_option linter.unusedVariables false
set_option linter.unusedSimpArgs false
open Go.RowKit Go.Shelf Go.Proofs
attribute [local go_sem ↓] Go.wp_at_zero Go.wp_at_succ

/-- What more adds. -/
def addS (z : Int) (cut : Bool) : Int := if cut then (if z < 0 then -1 else 1) else 0

set_option maxRecDepth 100000 in
set_option maxHeartbeats 8000000 in
theorem smore_c (v : Value) (z : Int) (cut : Bool) (w : World) (h : Ri w v z) (hm : (dg 10 z.natAbs).length ≤ 900000) :
    Calls Tryz.prog 127 #[v, .bool cut] w (RiP (10 * z + addS z cut) w) := by
  obtain ⟨A1, n1, p1, s, rfl⟩ := h.form
  obtain ⟨-, hs⟩ := ri_parts h
  obtain ⟨W0, hW, k0, k1, hbel, hsz⟩ := bx2h w #[.slice A1 n1 p1, .bool s] #[.slice none 0 0, .bool false] 58 58
  have HK00 := Lib.hid k0; have HK10 := Lib.hid k1
  have HBEL0 := Lib.hid hbel
  have HRZ := Lib.hid h
  have HS := Lib.hid hs
  have HO1 := Lib.hid (fun w' => rof_c ⟨#[49]⟩ 1 w' ⟨by decide +kernel, by decide +kernel⟩)
  have HZR := Lib.hid (fun v w' hv => zeros_c v z 1 1 w' hv (by omega) rfl (by decide))
  rw [Int.pow_one] at HZR
  have HL1 : Hid ((dg 10 (z * 10).natAbs).length ≤ 1000000) := by
    show _ ≤ _
    have := dg_shift_le (z := z) 1 hm
    rw [Int.pow_one] at this
    omega
  obtain ⟨ad, had⟩ : ∃ ad, addS z cut = ad := ⟨_, rfl⟩
  have hadl : (dg 10 ad.natAbs).length ≤ 1000000 := by
    have : ad.natAbs < 10 ^ 1 := by rw [← had]; unfold addS; split <;> (try split) <;> decide
    have := (dg_length_le (b := 10) (by decide) ad.natAbs 1).2 this
    omega
  have HSU := Lib.hid (fun v1 v2 w' h1 h2 => rsum_c v1 v2 (z * 10) ad w' h1 h2 HL1.out hadl)
  rw [had, show 10 * z + ad = z * 10 + ad by omega]
  have HAD := Lib.hid had
  clear k0 k1 hbel h hm hs had hadl
  go_enter Tryz.func127, Tryz.ntmps127
  go_upto_if 7 with fail
  obtain ⟨W, hW3⟩ : ∃ W, W0.alloc (.cells #[.slice none 0 0, .bool false] 58) = W := ⟨_, rfl⟩
  have HK0 : Hid (W.heap[w.heap.size]? = some (.cells #[.slice A1 n1 p1, .bool s] 58 (0, 0))) := by rw [← hW3]; exact heap_old _ HK00.out
  have HK1 : Hid (W.heap[w.heap.size + 1]? = some (.cells #[.slice none 0 0, .bool false] 58 (0, 0))) := by rw [← hW3]; exact heap_old _ HK10.out
  have HK2 : Hid (W.heap[w.heap.size + 2]? = some (.cells #[.slice none 0 0, .bool false] 58 (0, 0))) := by rw [← hW3]; exact heap_new' _ _ _ hsz.symm
  have HBEL : Hid (Below w.heap.size w W) := by rw [← hW3]; exact HBEL0.out.alloc (by omega) _
  rw [hW3]
  clear hW3 hsz hW HK00 HK10 HBEL0
  obtain ⟨c0, c1⟩ := two_cells HK0.out
  go_cut [8] from 8 to 8 (fun _ wx => ∃ A2 n2 p2, Hid (wx.heap[w.heap.size + 2]? = some (.cells #[.slice A2 n2 p2, .bool false] 58 (0, 0))) ∧ Hid (Ri wx (.agg #[.slice A2 n2 p2, .bool false]) (if cut then 1 else 0)) ∧ Hid (wx.heap[w.heap.size]? = some (.cells #[.slice A1 n1 p1, .bool s] 58 (0, 0))) ∧ Hid (wx.heap[w.heap.size + 1]? = some (.cells #[.slice none 0 0, .bool false] 58 (0, 0))) ∧ Hid (Below w.heap.size w wx))
  case first =>
    cases cut
    · go_wp2_with fail
      go_meet
      exact ⟨none, 0, 0, HK2.out, ri_nil _, HK0.out, HK1.out, HBEL.out⟩
    · go_wp2_with (go_at_call 93; (with_reducible refine (HO1.out _).mono ?_); rintro en w2 ⟨v, rfl, hv, hbz⟩; obtain ⟨A9, n9, c9, b9, rfl⟩ := hv.form; have hb9 := (ri_parts hv).2; rw [show decide ((1 : Int) < 0) = false from rfl] at hb9; subst hb9; have hh2 := heapB hbz HK2.out; obtain ⟨x0, x1⟩ := two_cells hh2; have y0 := free_of_heap hh2 0; have y1 := free_of_heap hh2 1; have HV := Lib.hid hv; have HH0 := Lib.hid (heapB hbz HK0.out); have HH1 := Lib.hid (heapB hbz HK1.out); have HH2 := Lib.hid hh2; have HB2 := Lib.hid (belowT HBEL.out hbz); clear hv hbz hh2)
      obtain ⟨F, hF, r0, r1, hri, hfb⟩ := ri_put HV.out HH2.out
      have h9 := putB (putB HH2.out 0 (.slice A9 n9 c9)) 1 (.bool false)
      have ho : ∀ k, k ≠ w.heap.size + 2 → F.heap[k]? = w2.heap[k]? := fun k hk => by rw [← hF, Below.heap_setCell _ _ _ _ hk, Below.heap_setCell _ _ _ _ hk]
      rw [hF] at h9
      have HF9 := Lib.hid h9; have HRI := Lib.hid hri; have HFB := Lib.hid (hfb w.heap.size w (by omega) HB2.out); have HO0 := Lib.hid ((ho w.heap.size (by omega)).trans HH0.out); have HO1' := Lib.hid ((ho (w.heap.size + 1) (by omega)).trans HH1.out)
      (try rw [hF])
      clear hri hfb h9 ho
      go_meet
      exact ⟨A9, n9, c9, by show _ = _; simpa using HF9.out, HRI.out, HO0.out, HO1'.out, HFB.out⟩
  obtain ⟨A2, n2, p2, HL2, HR2, HX0, HX1, HB⟩ := hcut
  obtain ⟨V, hV⟩ : ∃ V, wc = V := ⟨_, rfl⟩
  rw [hV] at HL2 HR2 HX0 HX1 HB ⊢
  clear hV c0 c1
  obtain ⟨c0, c1⟩ := two_cells HX0.out
  obtain ⟨x0, x1⟩ := two_cells HL2.out
  have y1 := free_of_heap HL2.out 1
  go_upto_if 10 with fail
  go_cut [11] from 11 to 12 (fun _ wx => ∃ A2 n2 p2 b2, Hid (wx.heap[w.heap.size + 2]? = some (.cells #[.slice A2 n2 p2, .bool b2] 58 (0, 0))) ∧ Hid (Ri wx (.agg #[.slice A2 n2 p2, .bool b2]) ad) ∧ Hid (wx.heap[w.heap.size]? = some (.cells #[.slice A1 n1 p1, .bool s] 58 (0, 0))) ∧ Hid (wx.heap[w.heap.size + 1]? = some (.cells #[.slice none 0 0, .bool false] 58 (0, 0))) ∧ Hid (Below w.heap.size w wx))
  case first =>
    cases s
    · have hz : ¬ z < 0 := by have := HS.out; simpa using this.symm
      have HA0 : Hid ((if cut = true then (1 : Int) else 0) = ad) := by show _ = _; rw [← HAD.out]; unfold addS; cases cut <;> simp [hz]
      go_wp2_with fail
      go_meet
      exact ⟨A2, n2, p2, false, HL2.out, by rw [← HA0.out]; exact HR2.out, HX0.out, HX1.out, HB.out⟩
    · have hz : z < 0 := by have := HS.out; simpa using this.symm
      have HA0 : Hid (ad = if cut = true then -1 else 0) := by show _ = _; rw [← HAD.out]; unfold addS; cases cut <;> simp [hz]
      have h9 := putB HL2.out 1 (.bool cut)
      have ho : ∀ k, k ≠ w.heap.size + 2 → (V.setCell ⟨w.heap.size + 2, 1, none⟩ (.bool cut)).heap[k]? = V.heap[k]? := fun k hk => Below.heap_setCell _ _ _ _ hk
      have hri : Ri (V.setCell ⟨w.heap.size + 2, 1, none⟩ (.bool cut)) (.agg #[.slice A2 n2 p2, .bool cut]) ad := by
        obtain ⟨p, e, hd⟩ := HR2.out
        have hp : p = .slice A2 n2 p2 := by
          injection e with h1
          injection h1 with h2
          injection h2 with h3 _
          exact h3.symm
        subst hp
        refine ⟨_, by rw [HA0.out]; cases cut <;> rfl, ?_⟩
        have e1 : ad.natAbs = (if cut = true then (1 : Int) else 0).natAbs := by rw [HA0.out]; cases cut <;> rfl
        rw [e1]
        refine dg_off2 hd HL2.out ?_ ho
        intro i z hi
        match i with
        | 0 => simp at hi
        | 1 => simp at hi
        | i + 2 => simp at hi
      have HF9 := Lib.hid h9; have HRI := Lib.hid hri; have HFB := Lib.hid (HB.out.setCell (p := ⟨w.heap.size + 2, 1, none⟩) (by simp) (.bool cut)); have HO0 := Lib.hid ((ho w.heap.size (by omega)).trans HX0.out); have HO1' := Lib.hid ((ho (w.heap.size + 1) (by omega)).trans HX1.out)
      clear h9 ho hri
      go_wp2_with fail
      go_meet
      exact ⟨A2, n2, p2, cut, by show _ = _; simpa using HF9.out, HRI.out, HO0.out, HO1'.out, HFB.out⟩
  clear A2 n2 p2 HL2 HR2 HX0 HX1 HB c0 c1 x0 x1 y1
  obtain ⟨A2, n2, p2, b2, HL2, HR2, HX0, HX1, HB⟩ := hcut
  obtain ⟨U, hU⟩ : ∃ U, wc = U := ⟨_, rfl⟩
  rw [hU] at HL2 HR2 HX0 HX1 HB ⊢
  clear hU
  obtain ⟨c0, c1⟩ := two_cells HX0.out
  obtain ⟨x0, x1⟩ := two_cells HL2.out
  have HRZ := Lib.hid (HRZ.out.below HB.out)
  go_upto_region 6 with fail
  go_cut [16] from 13 to 16 (fun _ wx => ∃ A n c b, wx.cell? ⟨w.heap.size + 1, 0, none⟩ = some (.slice A n c) ∧ wx.cell? ⟨w.heap.size + 1, 1, none⟩ = some (.bool b) ∧ Hid (Ri wx (.agg #[.slice A n c, .bool b]) (z * 10 + ad)) ∧ Hid (Below w.heap.size w wx))
  case first =>
    have HSTL : StableL [(fun w v => Ri w v (z)), (fun w v => Ri w v (z * 10)), (fun w v => Ri w v (ad)), (fun w v => Ri w v (z * 10 + ad)), (fun _ _ => True)] := ⟨(fun _ _ _ hb h => Ri.below h hb), (fun _ _ _ hb h => Ri.below h hb), (fun _ _ _ hb h => Ri.below h hb), (fun _ _ _ hb h => Ri.below h hb), (fun _ _ _ _ h => h), trivial⟩
    refine wp_region_p [13, 14, 15, 16] [13, 14, 15, 16, 1000] [(fun w v => Ri w v (z)), (fun w v => Ri w v (z * 10)), (fun w v => Ri w v (ad)), (fun w v => Ri w v (z * 10 + ad)), (fun _ _ => True)] 4 (fun _ wx => ∃ A n c b, wx.cell? ⟨w.heap.size + 1, 0, none⟩ = some (.slice A n c) ∧ wx.cell? ⟨w.heap.size + 1, 1, none⟩ = some (.bool b) ∧ Hid (Ri wx (.agg #[.slice A n c, .bool b]) (z * 10 + ad)) ∧ Hid (Below w.heap.size w wx)) 5 rfl (by kernel_rfl) (by kernel_rfl) ?_ ⟨?_, ?_, ?_, ?_, ?_, trivial⟩
    · intro l us wx hl hJ
      have HF := Lib.hid (hJ.ended hl (by decide))
      clear hl hJ
      simp only [At, List.foldl_cons, List.foldl_nil, List.setIfInBounds_toArray, List.set_cons_zero, List.set_cons_succ]
      go_wp2_with fail
      go_meet
      exact HF.out
    · refine opAt rfl ?_
      intro l us wx hJ hp hl K hK
      have HJ := Lib.hid hJ; have HP := Lib.hid hp; have HLI := Lib.hid hl; have HF := Lib.hid (hJ.live hl (by decide)); have HBX := Lib.hid (hJ.below HF.out); have HK := hK
      clear hJ hp hl hK
      simp only [At, List.foldl_cons, List.foldl_nil, List.setIfInBounds_toArray, List.set_cons_zero, List.set_cons_succ] at HK
      have HK := Lib.hid HK
      have c0 := keep_cell HBX.out c0
      have c1 := keep_cell HBX.out c1
      simp only [At, List.foldl_cons, List.foldl_nil, List.setIfInBounds_toArray, List.set_cons_zero, List.set_cons_succ]
      refine ⟨?_⟩
      go_simp
      exact HK.out (upd us 13 (.agg #[.slice A1 n1 p1, .bool s])) wx (by exact HJ.out.go HSTL (by kernel_rfl) 0 HF.out (by decide) (by decide) HP.out (Below.refl _ _) (.agg #[.slice A1 n1 p1, .bool s]) (HRZ.out.below HBX.out))
    · refine opAt rfl ?_
      intro l us wx hJ hp hl K hK
      have HJ := Lib.hid hJ; have HP := Lib.hid hp; have HLI := Lib.hid hl; have HF := Lib.hid (hJ.live hl (by decide)); have HBX := Lib.hid (hJ.below HF.out); have HK := hK
      clear hJ hp hl hK
      simp only [At, List.foldl_cons, List.foldl_nil, List.setIfInBounds_toArray, List.set_cons_zero, List.set_cons_succ] at HK
      have HK := Lib.hid HK
      have h13 : Ri wx (us 13) (z) := HJ.out.val HF.out 0 (by decide) (HP.out 0 (by kernel_rfl))
      obtain ⟨A13, n13, q13, b13, e13⟩ := h13.form
      simp only [At, List.foldl_cons, List.foldl_nil, List.setIfInBounds_toArray, List.set_cons_zero, List.set_cons_succ]
      refine ⟨?_⟩
      go_simp
      go_wp2_with ((go_at_call 126; (with_reducible refine (HZR.out _ _ (by rw [e13] at h13; exact h13)).mono ?_); rintro en w9 ⟨v9, rfl, hv9, hbz⟩; have HV := Lib.hid hv9; clear hv9; have HC := Lib.hid hbz; clear hbz))
      exact HK.out (upd (upd us 13 (.agg #[.slice A13 n13 q13, .bool b13])) 14 (v9)) w9 (by rw [upd_self e13]; exact HJ.out.go HSTL (by kernel_rfl) 1 HF.out (by decide) (by decide) HP.out HC.out (v9) (HV.out))
    · refine opAt rfl ?_
      intro l us wx hJ hp hl K hK
      have HJ := Lib.hid hJ; have HP := Lib.hid hp; have HLI := Lib.hid hl; have HF := Lib.hid (hJ.live hl (by decide)); have HBX := Lib.hid (hJ.below HF.out); have HK := hK
      clear hJ hp hl hK
      simp only [At, List.foldl_cons, List.foldl_nil, List.setIfInBounds_toArray, List.set_cons_zero, List.set_cons_succ] at HK
      have HK := Lib.hid HK
      have x0 := keep_cell HBX.out x0
      have x1 := keep_cell HBX.out x1
      simp only [At, List.foldl_cons, List.foldl_nil, List.setIfInBounds_toArray, List.set_cons_zero, List.set_cons_succ]
      refine ⟨?_⟩
      go_simp
      exact HK.out (upd us 15 (.agg #[.slice A2 n2 p2, .bool b2])) wx (by exact HJ.out.go HSTL (by kernel_rfl) 2 HF.out (by decide) (by decide) HP.out (Below.refl _ _) (.agg #[.slice A2 n2 p2, .bool b2]) (HR2.out.below HBX.out))
    · refine opAt rfl ?_
      intro l us wx hJ hp hl K hK
      have HJ := Lib.hid hJ; have HP := Lib.hid hp; have HLI := Lib.hid hl; have HF := Lib.hid (hJ.live hl (by decide)); have HBX := Lib.hid (hJ.below HF.out); have HK := hK
      clear hJ hp hl hK
      simp only [At, List.foldl_cons, List.foldl_nil, List.setIfInBounds_toArray, List.set_cons_zero, List.set_cons_succ] at HK
      have HK := Lib.hid HK
      have h14 : Ri wx (us 14) (z * 10) := HJ.out.val HF.out 1 (by decide) (HP.out 1 (by kernel_rfl))
      obtain ⟨A14, n14, q14, b14, e14⟩ := h14.form
      have h15 : Ri wx (us 15) (ad) := HJ.out.val HF.out 2 (by decide) (HP.out 2 (by kernel_rfl))
      obtain ⟨A15, n15, q15, b15, e15⟩ := h15.form
      simp only [At, List.foldl_cons, List.foldl_nil, List.setIfInBounds_toArray, List.set_cons_zero, List.set_cons_succ]
      refine ⟨?_⟩
      go_simp
      go_wp2_with ((go_at_call 175; (with_reducible refine (HSU.out _ _ _ (by rw [e14] at h14; exact h14) (by rw [e15] at h15; exact h15)).mono ?_); rintro en w9 ⟨v9, rfl, hv9, hbz⟩; have HV := Lib.hid hv9; clear hv9; have HC := Lib.hid hbz; clear hbz))
      exact HK.out (upd (upd (upd us 14 (.agg #[.slice A14 n14 q14, .bool b14])) 15 (.agg #[.slice A15 n15 q15, .bool b15])) 16 (v9)) w9 (by rw [upd_self e14, upd_self e15]; exact HJ.out.go HSTL (by kernel_rfl) 3 HF.out (by decide) (by decide) HP.out HC.out (v9) (HV.out))
    · refine opAt rfl ?_
      intro l us wx hJ hp hl K hK
      have HJ := Lib.hid hJ; have HP := Lib.hid hp; have HLI := Lib.hid hl; have HF := Lib.hid (hJ.live hl (by decide)); have HBX := Lib.hid (hJ.below HF.out); have HK := hK
      clear hJ hp hl hK
      simp only [At, List.foldl_cons, List.foldl_nil, List.setIfInBounds_toArray, List.set_cons_zero, List.set_cons_succ] at HK
      have HK := Lib.hid HK
      have h16 : Ri wx (us 16) (z * 10 + ad) := HJ.out.val HF.out 3 (by decide) (HP.out 3 (by kernel_rfl))
      obtain ⟨A16, n16, q16, b16, e16⟩ := h16.form
      rw [e16] at h16
      have hb9 := heapB HBX.out HX1.out
      obtain ⟨d0, d1⟩ := two_cells hb9
      have f0 := free_of_heap hb9 0; have f1 := free_of_heap hb9 1
      obtain ⟨F, hF, r0, r1, hri, hfb⟩ := ri_put h16 hb9
      have HR9 := Lib.hid hri; have HFB := Lib.hid (hfb w.heap.size w (by omega) (belowT HB.out HBX.out))
      clear hri hfb h16
      simp only [At, List.foldl_cons, List.foldl_nil, List.setIfInBounds_toArray, List.set_cons_zero, List.set_cons_succ]
      refine ⟨?_⟩
      go_simp
      (try rw [hF])
      exact HK.out (upd us 16 (.agg #[.slice A16 n16 q16, .bool b16])) _ (by rw [upd_self e16]; exact HJ.out.store (by kernel_rfl) HLI.out HP.out (⟨A16, n16, q16, b16, r0, r1, HR9.out, HFB.out⟩))
  case rest =>
    obtain ⟨A, n, c, b, r0, r1, HR, HB⟩ := hcut
    go_wp2_with fail
    refine bodyPost_ret (v := .agg #[.slice A n c, .bool b]) (by simp [results, Tryz.results127, go_sem, r0, r1]) rfl ?_
    exact ⟨_, rfl, HR.out, HB.out⟩
end Go.Proofs.YtekbfommnmikbaaGreatDoor
