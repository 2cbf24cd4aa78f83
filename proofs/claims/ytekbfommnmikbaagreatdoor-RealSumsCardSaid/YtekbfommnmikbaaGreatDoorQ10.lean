/- Texts of this claim, merged: SpL, SpM, ProdP. -/
import Derived.Test.YtekbfommnmikbaaGreatDoorQ9
/- The reference of layer 2: Over. -/
namespace Go.Proofs.YtekbfommnmikbaaGreatDoor
set_option linter.unusedVariables false
set_option linter.unusedSimpArgs false
open Go.RowKit Go.Shelf Go.Proofs
attribute [local go_sem ↓] Go.wp_at_zero Go.wp_at_succ

theorem four_of {w : World} {B : Nat} {x y z u : Value} {t : TypeId} {fz : Nat × Nat} (h : w.heap[B]? = some (.cells #[x, y, z, u] t fz)) : w.cell? ⟨B, 0, none⟩ = some x ∧ w.cell? ⟨B, 1, none⟩ = some y ∧ w.cell? ⟨B, 2, none⟩ = some z ∧ w.cell? ⟨B, 3, none⟩ = some u := ⟨cell_of_heap h 0, cell_of_heap h 1, cell_of_heap h 2, cell_of_heap h 3⟩
/-- A number lies in no box without whole numbers. -/
theorem ri_off {w F : World} {A : Option Addr} {n c g : Nat} {b : Bool} {z : Int} {cs : Array Value} {t : TypeId} {fz : Nat × Nat} (h : Ri w (.agg #[.slice A n c, .bool b]) z) (hbox : w.heap[g]? = some (.cells cs t fz)) (hcs : ∀ (i : Nat) z, cs[i]? = some (.int .i64 z) → z ≤ 0) (hF : ∀ k, k ≠ g → F.heap[k]? = w.heap[k]?) : Ri F (.agg #[.slice A n c, .bool b]) z := by
  obtain ⟨p, e, hd⟩ := h
  exact ⟨p, e, dg_off2 hd hbox hcs hF⟩
theorem pair_put {w : World} {g : Nat} {t : TypeId} {A A' : Option Addr} {n c n' c' : Nat} {b b' : Bool} {x y : Int} (h1 : Ri w (.agg #[.slice A n c, .bool b]) x) (h2 : Ri w (.agg #[.slice A' n' c', .bool b']) y) (hb : w.heap[g]? = some (.cells #[.slice none 0 0, .bool false, .slice none 0 0, .bool false] t (0, 0))) :
    ∃ F, (((w.setCell ⟨g, 0, none⟩ (.slice A n c)).setCell ⟨g, 1, none⟩ (.bool b)).setCell ⟨g, 2, none⟩ (.slice A' n' c')).setCell ⟨g, 3, none⟩ (.bool b') = F ∧ F.heap[g]? = some (.cells #[.slice A n c, .bool b, .slice A' n' c', .bool b'] t (0, 0)) ∧ Ri F (.agg #[.slice A n c, .bool b]) x ∧ Ri F (.agg #[.slice A' n' c', .bool b']) y ∧ (∀ k, k ≠ g → F.heap[k]? = w.heap[k]?) ∧ (∀ k w0, k ≤ g → Below k w0 w → Below k w0 F) := by
  have h9 := putB (putB (putB (putB hb 0 (.slice A n c)) 1 (.bool b)) 2 (.slice A' n' c')) 3 (.bool b')
  have hoff : ∀ k, k ≠ g → ((((w.setCell ⟨g, 0, none⟩ (.slice A n c)).setCell ⟨g, 1, none⟩ (.bool b)).setCell ⟨g, 2, none⟩ (.slice A' n' c')).setCell ⟨g, 3, none⟩ (.bool b')).heap[k]? = w.heap[k]? := fun k hk => by rw [Below.heap_setCell _ _ _ _ hk, Below.heap_setCell _ _ _ _ hk, Below.heap_setCell _ _ _ _ hk, Below.heap_setCell _ _ _ _ hk]
  have hz : ∀ (i : Nat) z, (#[.slice none 0 0, .bool false, .slice none 0 0, .bool false] : Array Value)[i]? = some (.int .i64 z) → z ≤ 0 := by
    intro i z hi
    match i with
    | 0 => simp at hi
    | 1 => simp at hi
    | 2 => simp at hi
    | 3 => simp at hi
    | i + 4 => simp at hi
  exact ⟨_, rfl, by simpa using h9, ri_off h1 hb hz hoff, ri_off h2 hb hz hoff, hoff, fun k w0 hk hb => (((hb.setCell hk _).setCell hk _).setCell hk _).setCell hk _⟩

set_option maxRecDepth 100000 in
set_option maxHeartbeats 8000000 in
theorem sover_c (v1 v2 : Value) (x ex y ey : Int) (w : World) (h1 : Dc w v1 x ex) (h2 : Dc w v2 y ey) (hy0 : y ≠ 0) (hx : (dg 10 x.natAbs).length ≤ 1000) (hy : (dg 10 y.natAbs).length ≤ 1000) (a0 : -10000 ≤ ex) (a1 : ex ≤ 10000) (b0 : -10000 ≤ ey) (b1 : ey ≤ 10000) :
    Calls Tryz.prog 53 #[v1, v2] w fun en w' => ∃ v, en = .returned v ∧ Dc w' v (10 * (x * 10 ^ (14 + (dg 10 y.natAbs).length)).tdiv y + addS ((x * 10 ^ (14 + (dg 10 y.natAbs).length)).tdiv y) (decide ((x * 10 ^ (14 + (dg 10 y.natAbs).length)).tmod y ≠ 0))) (ex - (14 + (dg 10 y.natAbs).length : Nat) - ey - 1) ∧ Below w.heap.size w w' := by
  obtain ⟨A1, n1, p1, s1, rfl, hr1⟩ := h1
  obtain ⟨A2, n2, p2, s2, rfl, hr2⟩ := h2
  have hn2 := (ri_parts hr2).1
  obtain ⟨W, hW, k0, k1, k2, hbel⟩ := bx3h w #[.slice A1 n1 p1, .bool s1, .int .i64 ex] #[.slice A2 n2 p2, .bool s2, .int .i64 ey] #[.slice none 0 0, .bool false, .int .i64 0] 60 60 60
  obtain ⟨c0, c1, c2⟩ := three_cells k0
  obtain ⟨z0, z1, z2⟩ := three_cells k1
  have HK0 := Lib.hid k0; have HK1 := Lib.hid k1; have HK2 := Lib.hid k2
  have HBEL := Lib.hid hbel
  have HR1 := Lib.hid (hr1.below hbel)
  have HR2 := Lib.hid (hr2.below hbel)
  obtain ⟨kk, hkk⟩ : ∃ kk, 14 + (dg 10 y.natAbs).length = kk := ⟨_, rfl⟩
  have hkn : 14 + n2 = kk := by rw [hn2]; exact hkk
  have hkb : kk ≤ 1014 := by omega
  rw [hkk]
  obtain ⟨q, hq⟩ : ∃ q, (x * 10 ^ kk).tdiv y = q := ⟨_, rfl⟩
  obtain ⟨r, hr⟩ : ∃ r, (x * 10 ^ kk).tmod y = r := ⟨_, rfl⟩
  rw [hq, hr]
  have hXl := dg_shift_le kk hx
  have hql : (dg 10 q.natAbs).length ≤ 900000 := by
    have h1 : q.natAbs ≤ (x * 10 ^ kk).natAbs := by rw [← hq]; exact Int.natAbs_tdiv_le_natAbs _ _
    have := dg_length_mono (b := 10) (by decide) h1
    omega
  have HZR := Lib.hid (fun v w' hv => zeros_c v x (kk : Int) kk w' hv (by omega) rfl (by omega))
  have HCU := Lib.hid (fun v1 v2 w' h1 h2 => rcut_c v1 v2 (x * 10 ^ kk) y w' h1 h2 hy0 (by omega) (by omega))
  rw [hq, hr] at HCU
  have HMF := Lib.hid (fun v w' hv => smore_c v q false w' hv hql)
  have HMT := Lib.hid (fun v w' hv => smore_c v q true w' hv hql)
  have hki : (14 : Int) + (n2 : Int) = (kk : Int) := by omega
  clear k0 k1 k2 hbel hr1 hr2 hx hy hn2 hkk hq hr hXl hql hkn
  go_enter Tryz.func53, Tryz.ntmps53
  go_upto_region 2 with fail
  try rw [hki]
  clear hki
  go_cut [6] from 13 to 19 (fun v6 wx => ∃ g A n c b A' n' c' b', v6 = .pointer (some ⟨g, 0, none⟩) ∧ Hid (wx.heap[g]? = some (.cells #[.slice A n c, .bool b, .slice A' n' c', .bool b'] 120 (0, 0))) ∧ Hid (Ri wx (.agg #[.slice A n c, .bool b]) q) ∧ Hid (Ri wx (.agg #[.slice A' n' c', .bool b']) r) ∧ Hid (wx.heap[w.heap.size]? = some (.cells #[.slice A1 n1 p1, .bool s1, .int .i64 ex] 60 (0, 0))) ∧ Hid (wx.heap[w.heap.size + 1]? = some (.cells #[.slice A2 n2 p2, .bool s2, .int .i64 ey] 60 (0, 0))) ∧ Hid (wx.heap[w.heap.size + 2]? = some (.cells #[.slice none 0 0, .bool false, .int .i64 0] 60 (0, 0))) ∧ Hid (Below w.heap.size w wx))
  case first =>
    have HSTL : StableL [(fun _ v => v = .pointer (some ⟨w.heap.size, 0, none⟩)), (fun w v => Ri w v (x)), (fun _ v => v = .int .i64 (kk : Int)), (fun w v => Ri w v (x * 10 ^ kk)), (fun _ v => v = .pointer (some ⟨w.heap.size + 1, 0, none⟩)), (fun w v => Ri w v (y)), (fun w v => Pr w v q r), (fun wz v => ∃ g, v = .pointer (some ⟨g, 0, none⟩) ∧ W.heap.size ≤ g ∧ wz.heap[g]? = some (.cells #[.slice none 0 0, .bool false, .slice none 0 0, .bool false] 120 (0, 0))), (fun _ _ => True)] := ⟨(fun _ _ _ _ h => h), (fun _ _ _ hb h => Ri.below h hb), (fun _ _ _ _ h => h), (fun _ _ _ hb h => Ri.below h hb), (fun _ _ _ _ h => h), (fun _ _ _ hb h => Ri.below h hb), (fun _ _ _ hb h => Pr.below h hb), (fun _ _ _ hb ⟨g, e, h1, h2⟩ => ⟨g, e, h1, heapB hb h2⟩), (fun _ _ _ _ h => h), trivial⟩
    refine wp_region_p [13, 14, 15, 16, 17, 18, 19, 6] [13, 14, 15, 16, 17, 18, 19, 6, 1000] [(fun _ v => v = .pointer (some ⟨w.heap.size, 0, none⟩)), (fun w v => Ri w v (x)), (fun _ v => v = .int .i64 (kk : Int)), (fun w v => Ri w v (x * 10 ^ kk)), (fun _ v => v = .pointer (some ⟨w.heap.size + 1, 0, none⟩)), (fun w v => Ri w v (y)), (fun w v => Pr w v q r), (fun wz v => ∃ g, v = .pointer (some ⟨g, 0, none⟩) ∧ W.heap.size ≤ g ∧ wz.heap[g]? = some (.cells #[.slice none 0 0, .bool false, .slice none 0 0, .bool false] 120 (0, 0))), (fun _ _ => True)] 8 (fun us wx => ∃ g A n c b A' n' c' b', us 6 = .pointer (some ⟨g, 0, none⟩) ∧ Hid (wx.heap[g]? = some (.cells #[.slice A n c, .bool b, .slice A' n' c', .bool b'] 120 (0, 0))) ∧ Hid (Ri wx (.agg #[.slice A n c, .bool b]) q) ∧ Hid (Ri wx (.agg #[.slice A' n' c', .bool b']) r) ∧ Hid (wx.heap[w.heap.size]? = some (.cells #[.slice A1 n1 p1, .bool s1, .int .i64 ex] 60 (0, 0))) ∧ Hid (wx.heap[w.heap.size + 1]? = some (.cells #[.slice A2 n2 p2, .bool s2, .int .i64 ey] 60 (0, 0))) ∧ Hid (wx.heap[w.heap.size + 2]? = some (.cells #[.slice none 0 0, .bool false, .int .i64 0] 60 (0, 0))) ∧ Hid (Below w.heap.size w wx)) 9 rfl (by kernel_rfl) (by kernel_rfl) ?_ ⟨?_, ?_, ?_, ?_, ?_, ?_, ?_, ?_, ?_, trivial⟩
    · intro l us wx hl hJ
      have HF := Lib.hid (hJ.ended hl (by decide))
      clear hl hJ
      simp only [At, List.foldl_cons, List.foldl_nil, List.setIfInBounds_toArray, List.set_cons_zero, List.set_cons_succ]
      obtain ⟨g, A, n, c, b, A', n', c', b', e6, HG⟩ := HF.out
      go_wp2_with fail
      go_meet
      exact ⟨g, A, n, c, b, A', n', c', b', e6, HG⟩
    · refine opAt rfl ?_
      intro l us wx hJ hp hl K hK
      have HJ := Lib.hid hJ; have HP := Lib.hid hp; have HLI := Lib.hid hl; have HF := Lib.hid (hJ.live hl (by decide)); have HBX := Lib.hid (hJ.below HF.out); have HK := hK
      clear hJ hp hl hK
      simp only [At, List.foldl_cons, List.foldl_nil, List.setIfInBounds_toArray, List.set_cons_zero, List.set_cons_succ] at HK
      have HK := Lib.hid HK
      simp only [At, List.foldl_cons, List.foldl_nil, List.setIfInBounds_toArray, List.set_cons_zero, List.set_cons_succ]
      refine ⟨?_⟩
      go_simp
      exact HK.out (upd us 13 (.pointer (some ⟨w.heap.size, 0, none⟩))) wx (by exact HJ.out.go HSTL (by kernel_rfl) 0 HF.out (by decide) (by decide) HP.out (Below.refl _ _) (.pointer (some ⟨w.heap.size, 0, none⟩)) (rfl))
    · refine opAt rfl ?_
      intro l us wx hJ hp hl K hK
      have HJ := Lib.hid hJ; have HP := Lib.hid hp; have HLI := Lib.hid hl; have HF := Lib.hid (hJ.live hl (by decide)); have HBX := Lib.hid (hJ.below HF.out); have HK := hK
      clear hJ hp hl hK
      simp only [At, List.foldl_cons, List.foldl_nil, List.setIfInBounds_toArray, List.set_cons_zero, List.set_cons_succ] at HK
      have HK := Lib.hid HK
      have h13 : us 13 = .pointer (some ⟨w.heap.size, 0, none⟩) := HJ.out.val HF.out 0 (by decide) (HP.out 0 (by kernel_rfl))
      have c0 := keep_cell HBX.out c0
      have c1 := keep_cell HBX.out c1
      simp only [At, List.foldl_cons, List.foldl_nil, List.setIfInBounds_toArray, List.set_cons_zero, List.set_cons_succ]
      refine ⟨?_⟩
      go_simp
      exact HK.out (upd (upd us 13 (.pointer (some ⟨w.heap.size, 0, none⟩))) 14 (.agg #[.slice A1 n1 p1, .bool s1])) wx (by rw [upd_self h13]; exact HJ.out.go HSTL (by kernel_rfl) 1 HF.out (by decide) (by decide) HP.out (Below.refl _ _) (.agg #[.slice A1 n1 p1, .bool s1]) (HR1.out.below HBX.out))
    · refine opAt rfl ?_
      intro l us wx hJ hp hl K hK
      have HJ := Lib.hid hJ; have HP := Lib.hid hp; have HLI := Lib.hid hl; have HF := Lib.hid (hJ.live hl (by decide)); have HBX := Lib.hid (hJ.below HF.out); have HK := hK
      clear hJ hp hl hK
      simp only [At, List.foldl_cons, List.foldl_nil, List.setIfInBounds_toArray, List.set_cons_zero, List.set_cons_succ] at HK
      have HK := Lib.hid HK
      simp only [At, List.foldl_cons, List.foldl_nil, List.setIfInBounds_toArray, List.set_cons_zero, List.set_cons_succ]
      refine ⟨?_⟩
      go_simp
      exact HK.out (upd us 15 (.int .i64 (kk : Int))) wx (by exact HJ.out.go HSTL (by kernel_rfl) 2 HF.out (by decide) (by decide) HP.out (Below.refl _ _) (.int .i64 (kk : Int)) (rfl))
    · refine opAt rfl ?_
      intro l us wx hJ hp hl K hK
      have HJ := Lib.hid hJ; have HP := Lib.hid hp; have HLI := Lib.hid hl; have HF := Lib.hid (hJ.live hl (by decide)); have HBX := Lib.hid (hJ.below HF.out); have HK := hK
      clear hJ hp hl hK
      simp only [At, List.foldl_cons, List.foldl_nil, List.setIfInBounds_toArray, List.set_cons_zero, List.set_cons_succ] at HK
      have HK := Lib.hid HK
      have h14 : Ri wx (us 14) (x) := HJ.out.val HF.out 1 (by decide) (HP.out 1 (by kernel_rfl))
      obtain ⟨A14, n14, q14, b14, e14⟩ := h14.form
      have h15 : us 15 = .int .i64 (kk : Int) := HJ.out.val HF.out 2 (by decide) (HP.out 2 (by kernel_rfl))
      simp only [At, List.foldl_cons, List.foldl_nil, List.setIfInBounds_toArray, List.set_cons_zero, List.set_cons_succ]
      refine ⟨?_⟩
      go_simp
      go_wp2_with ((go_at_call 126; (with_reducible refine (HZR.out _ _ (by rw [e14] at h14; exact h14)).mono ?_); rintro en w9 ⟨v9, rfl, hv9, hbz⟩; have HV := Lib.hid hv9; clear hv9; have HC := Lib.hid hbz; clear hbz))
      exact HK.out (upd (upd (upd us 14 (.agg #[.slice A14 n14 q14, .bool b14])) 15 (.int .i64 (kk : Int))) 16 (v9)) w9 (by rw [upd_self e14, upd_self h15]; exact HJ.out.go HSTL (by kernel_rfl) 3 HF.out (by decide) (by decide) HP.out HC.out (v9) (HV.out))
    · refine opAt rfl ?_
      intro l us wx hJ hp hl K hK
      have HJ := Lib.hid hJ; have HP := Lib.hid hp; have HLI := Lib.hid hl; have HF := Lib.hid (hJ.live hl (by decide)); have HBX := Lib.hid (hJ.below HF.out); have HK := hK
      clear hJ hp hl hK
      simp only [At, List.foldl_cons, List.foldl_nil, List.setIfInBounds_toArray, List.set_cons_zero, List.set_cons_succ] at HK
      have HK := Lib.hid HK
      simp only [At, List.foldl_cons, List.foldl_nil, List.setIfInBounds_toArray, List.set_cons_zero, List.set_cons_succ]
      refine ⟨?_⟩
      go_simp
      exact HK.out (upd us 17 (.pointer (some ⟨w.heap.size + 1, 0, none⟩))) wx (by exact HJ.out.go HSTL (by kernel_rfl) 4 HF.out (by decide) (by decide) HP.out (Below.refl _ _) (.pointer (some ⟨w.heap.size + 1, 0, none⟩)) (rfl))
    · refine opAt rfl ?_
      intro l us wx hJ hp hl K hK
      have HJ := Lib.hid hJ; have HP := Lib.hid hp; have HLI := Lib.hid hl; have HF := Lib.hid (hJ.live hl (by decide)); have HBX := Lib.hid (hJ.below HF.out); have HK := hK
      clear hJ hp hl hK
      simp only [At, List.foldl_cons, List.foldl_nil, List.setIfInBounds_toArray, List.set_cons_zero, List.set_cons_succ] at HK
      have HK := Lib.hid HK
      have h17 : us 17 = .pointer (some ⟨w.heap.size + 1, 0, none⟩) := HJ.out.val HF.out 4 (by decide) (HP.out 4 (by kernel_rfl))
      have z0 := keep_cell HBX.out z0
      have z1 := keep_cell HBX.out z1
      simp only [At, List.foldl_cons, List.foldl_nil, List.setIfInBounds_toArray, List.set_cons_zero, List.set_cons_succ]
      refine ⟨?_⟩
      go_simp
      exact HK.out (upd (upd us 17 (.pointer (some ⟨w.heap.size + 1, 0, none⟩))) 18 (.agg #[.slice A2 n2 p2, .bool s2])) wx (by rw [upd_self h17]; exact HJ.out.go HSTL (by kernel_rfl) 5 HF.out (by decide) (by decide) HP.out (Below.refl _ _) (.agg #[.slice A2 n2 p2, .bool s2]) (HR2.out.below HBX.out))
    · refine opAt rfl ?_
      intro l us wx hJ hp hl K hK
      have HJ := Lib.hid hJ; have HP := Lib.hid hp; have HLI := Lib.hid hl; have HF := Lib.hid (hJ.live hl (by decide)); have HBX := Lib.hid (hJ.below HF.out); have HK := hK
      clear hJ hp hl hK
      simp only [At, List.foldl_cons, List.foldl_nil, List.setIfInBounds_toArray, List.set_cons_zero, List.set_cons_succ] at HK
      have HK := Lib.hid HK
      have h16 : Ri wx (us 16) (x * 10 ^ kk) := HJ.out.val HF.out 3 (by decide) (HP.out 3 (by kernel_rfl))
      obtain ⟨A16, n16, q16, b16, e16⟩ := h16.form
      have h18 : Ri wx (us 18) (y) := HJ.out.val HF.out 5 (by decide) (HP.out 5 (by kernel_rfl))
      obtain ⟨A18, n18, q18, b18, e18⟩ := h18.form
      simp only [At, List.foldl_cons, List.foldl_nil, List.setIfInBounds_toArray, List.set_cons_zero, List.set_cons_succ]
      refine ⟨?_⟩
      go_simp
      go_wp2_with ((go_at_call 125; (with_reducible refine (HCU.out _ _ _ (by rw [e16] at h16; exact h16) (by rw [e18] at h18; exact h18)).mono ?_); rintro en w9 ⟨v9, rfl, hv9, hbz⟩; have HV := Lib.hid hv9; clear hv9; have HC := Lib.hid hbz; clear hbz))
      exact HK.out (upd (upd (upd us 16 (.agg #[.slice A16 n16 q16, .bool b16])) 18 (.agg #[.slice A18 n18 q18, .bool b18])) 19 (v9)) w9 (by rw [upd_self e16, upd_self e18]; exact HJ.out.go HSTL (by kernel_rfl) 6 HF.out (by decide) (by decide) HP.out HC.out (v9) (HV.out))
    · refine opAt rfl ?_
      intro l us wx hJ hp hl K hK
      have HJ := Lib.hid hJ; have HP := Lib.hid hp; have HLI := Lib.hid hl; have HF := Lib.hid (hJ.live hl (by decide)); have HBX := Lib.hid (hJ.below HF.out); have HK := hK
      clear hJ hp hl hK
      simp only [At, List.foldl_cons, List.foldl_nil, List.setIfInBounds_toArray, List.set_cons_zero, List.set_cons_succ] at HK
      have HK := Lib.hid HK
      simp only [At, List.foldl_cons, List.foldl_nil, List.setIfInBounds_toArray, List.set_cons_zero, List.set_cons_succ]
      refine ⟨?_⟩
      go_simp
      exact HK.out (upd us 6 (.pointer (some ⟨wx.heap.size, 0, none⟩))) (wx.alloc (.cells #[.slice none 0 0, .bool false, .slice none 0 0, .bool false] 120)) (by exact HJ.out.go HSTL (by kernel_rfl) 7 HF.out (by decide) (by decide) HP.out ((Below.refl _ _).alloc (Nat.le_refl _) _) (.pointer (some ⟨wx.heap.size, 0, none⟩)) (⟨_, rfl, HBX.out.size, heap_alloc_new _ _⟩))
    · refine opAt rfl ?_
      intro l us wx hJ hp hl K hK
      have HJ := Lib.hid hJ; have HP := Lib.hid hp; have HLI := Lib.hid hl; have HF := Lib.hid (hJ.live hl (by decide)); have HBX := Lib.hid (hJ.below HF.out); have HK := hK
      clear hJ hp hl hK
      simp only [At, List.foldl_cons, List.foldl_nil, List.setIfInBounds_toArray, List.set_cons_zero, List.set_cons_succ] at HK
      have HK := Lib.hid HK
      have h19 : Pr wx (us 19) q r := HJ.out.val HF.out 6 (by decide) (HP.out 6 (by kernel_rfl))
      obtain ⟨A19, n19, q19, b19, A29, n29, q29, b29, e19⟩ := h19.form
      have h6 : ∃ g, us 6 = .pointer (some ⟨g, 0, none⟩) ∧ W.heap.size ≤ g ∧ wx.heap[g]? = some (.cells #[.slice none 0 0, .bool false, .slice none 0 0, .bool false] 120 (0, 0)) := HJ.out.val HF.out 7 (by decide) (HP.out 7 (by kernel_rfl))
      obtain ⟨g, e6, hg6, hh6⟩ := h6
      rw [e19] at h19
      obtain ⟨hp1, hp2⟩ := h19.parts
      obtain ⟨d0, d1, d2, d3⟩ := four_of hh6
      have f0 := free_of_heap hh6 0; have f1 := free_of_heap hh6 1; have f2 := free_of_heap hh6 2; have f3 := free_of_heap hh6 3
      obtain ⟨F, hF, hfh, hri, hri2, hoff, hfb⟩ := pair_put hp1 hp2 hh6
      have hWs : w.heap.size + 3 ≤ W.heap.size := by have h9 := (Array.getElem?_eq_some_iff.1 HK2.out).1; omega
      have HFH := Lib.hid hfh; have HRA := Lib.hid hri; have HRB := Lib.hid hri2; have HFB := Lib.hid (hfb w.heap.size w (by omega) (belowT HBEL.out HBX.out)); have HX0 := Lib.hid ((hoff w.heap.size (by omega)).trans (heapB HBX.out HK0.out)); have HX1 := Lib.hid ((hoff (w.heap.size + 1) (by omega)).trans (heapB HBX.out HK1.out)); have HX2 := Lib.hid ((hoff (w.heap.size + 2) (by omega)).trans (heapB HBX.out HK2.out))
      clear hfh hri hri2 hoff hfb hp1 hp2 h19 hh6 hg6 hWs
      simp only [At, List.foldl_cons, List.foldl_nil, List.setIfInBounds_toArray, List.set_cons_zero, List.set_cons_succ]
      refine ⟨?_⟩
      go_simp
      (try rw [hF])
      exact HK.out (upd (upd us 19 (.agg #[.slice A19 n19 q19, .bool b19, .slice A29 n29 q29, .bool b29])) 6 (.pointer (some ⟨g, 0, none⟩))) _ (by rw [upd_self e19, upd_self e6]; exact HJ.out.store (by kernel_rfl) HLI.out HP.out (⟨g, A19, n19, q19, b19, A29, n29, q29, b29, e6, HFH.out, HRA.out, HRB.out, HX0.out, HX1.out, HX2.out, HFB.out⟩))
  obtain ⟨g, A, n, c, b, A', n', c', b', rfl, HP, HQ, HRR, HX0, HX1, HX2, HB⟩ := hcut
  obtain ⟨V, hV⟩ : ∃ V, wc = V := ⟨_, rfl⟩
  rw [hV] at HP HQ HRR HX0 HX1 HX2 HB ⊢
  clear hV c0 c1 c2 z0 z1 z2
  have hVs : w.heap.size + 3 ≤ V.heap.size := by have h9 := (Array.getElem?_eq_some_iff.1 HX2.out).1; omega
  obtain ⟨g0, g1, g2, g3⟩ := four_of HP.out
  obtain ⟨c0, c1, c2⟩ := three_cells HX0.out
  obtain ⟨z0, z1, z2⟩ := three_cells HX1.out
  have hn' := (ri_parts HRR.out).1
  obtain ⟨U, hU⟩ : ∃ U, V.alloc (.cells #[.slice A n c, .bool b] 58) = U := ⟨_, rfl⟩
  have hUb : Below V.heap.size V U := by rw [← hU]; exact (Below.refl _ _).alloc (Nat.le_refl _) _
  have hUh : U.heap[V.heap.size]? = some (.cells #[.slice A n c, .bool b] 58 (0, 0)) := by rw [← hU]; exact heap_alloc_new _ _
  obtain ⟨t0, t1⟩ := two_cells hUh
  have Ag2 := fun o : Obj => keep_cell ((Below.refl _ _).alloc (Nat.le_refl _) o) g2
  have c20 := keep_cell hUb c2; have z20 := keep_cell hUb z2
  have HQ := Lib.hid (HQ.out.below hUb); have HX2 := Lib.hid (heapB hUb HX2.out); have HB := Lib.hid (belowT HB.out hUb)
  have HU := Lib.hid hU
  clear hUb hUh hU
  have hw1 : IntKind.i64.wrap (ex - (kk : Int)) = ex - (kk : Int) := IntWalk.i64_in _ (by omega)
  have hw2 : IntKind.i64.wrap (ex - (kk : Int) - ey) = ex - (kk : Int) - ey := IntWalk.i64_in _ (by omega)
  have hw3 : IntKind.i64.wrap (ex - (kk : Int) - ey - 1) = ex - (kk : Int) - ey - 1 := IntWalk.i64_in _ (by omega)
  by_cases hr0 : r = 0
  · have HDC : Hid (decide (r ≠ 0) = false) := by show _ = _; simp [hr0]
    subst hr0
    rw [Int.natAbs_zero, dg_zero, List.length_nil] at hn'
    subst hn'
    clear HRR
    go_upto_region 5 with fail
    rw [HU.out]
    go_cut [37] from 27 to 37 (fun _ wx => ∃ A n c b, wx.cell? ⟨w.heap.size + 2, 0, none⟩ = some (.slice A n c) ∧ wx.cell? ⟨w.heap.size + 2, 1, none⟩ = some (.bool b) ∧ wx.cell? ⟨w.heap.size + 2, 2, none⟩ = some (.int .i64 (ex - (kk : Int) - ey - 1)) ∧ Hid (Ri wx (.agg #[.slice A n c, .bool b]) (10 * q + addS q false)) ∧ Hid (Below w.heap.size w wx))
    case first =>
      have HSTL : StableL [(fun w v => Ri w v (q)), (fun w v => Ri w v (10 * q + addS q false)), (fun _ v => v = .pointer (some ⟨w.heap.size, 2, none⟩)), (fun _ v => v = .int .i64 ex), (fun _ v => v = .int .i64 (kk : Int)), (fun _ v => v = .int .i64 (ex - (kk : Int))), (fun _ v => v = .pointer (some ⟨w.heap.size + 1, 2, none⟩)), (fun _ v => v = .int .i64 ey), (fun _ v => v = .int .i64 (ex - (kk : Int) - ey)), (fun _ v => v = .int .i64 (ex - (kk : Int) - ey - 1)), (fun w v => Dc w v (10 * q + addS q false) (ex - (kk : Int) - ey - 1)), (fun _ _ => True)] := ⟨(fun _ _ _ hb h => Ri.below h hb), (fun _ _ _ hb h => Ri.below h hb), (fun _ _ _ _ h => h), (fun _ _ _ _ h => h), (fun _ _ _ _ h => h), (fun _ _ _ _ h => h), (fun _ _ _ _ h => h), (fun _ _ _ _ h => h), (fun _ _ _ _ h => h), (fun _ _ _ _ h => h), (fun _ _ _ hb h => Dc.below h hb), (fun _ _ _ _ h => h), trivial⟩
      refine wp_region_p [27, 28, 29, 30, 31, 32, 33, 34, 35, 36, 37] [27, 28, 29, 30, 31, 32, 33, 34, 35, 36, 37, 1000] [(fun w v => Ri w v (q)), (fun w v => Ri w v (10 * q + addS q false)), (fun _ v => v = .pointer (some ⟨w.heap.size, 2, none⟩)), (fun _ v => v = .int .i64 ex), (fun _ v => v = .int .i64 (kk : Int)), (fun _ v => v = .int .i64 (ex - (kk : Int))), (fun _ v => v = .pointer (some ⟨w.heap.size + 1, 2, none⟩)), (fun _ v => v = .int .i64 ey), (fun _ v => v = .int .i64 (ex - (kk : Int) - ey)), (fun _ v => v = .int .i64 (ex - (kk : Int) - ey - 1)), (fun w v => Dc w v (10 * q + addS q false) (ex - (kk : Int) - ey - 1)), (fun _ _ => True)] 11 (fun _ wx => ∃ A n c b, wx.cell? ⟨w.heap.size + 2, 0, none⟩ = some (.slice A n c) ∧ wx.cell? ⟨w.heap.size + 2, 1, none⟩ = some (.bool b) ∧ wx.cell? ⟨w.heap.size + 2, 2, none⟩ = some (.int .i64 (ex - (kk : Int) - ey - 1)) ∧ Hid (Ri wx (.agg #[.slice A n c, .bool b]) (10 * q + addS q false)) ∧ Hid (Below w.heap.size w wx)) 12 rfl (by kernel_rfl) (by kernel_rfl) ?_ ⟨?_, ?_, ?_, ?_, ?_, ?_, ?_, ?_, ?_, ?_, ?_, ?_, trivial⟩
      · intro l us wx hl hJ
        have HF := Lib.hid (hJ.ended hl (by decide))
        clear hl hJ
        simp only [At, List.foldl_cons, List.foldl_nil, List.setIfInBounds_toArray, List.set_cons_zero, List.set_cons_succ]
        go_wp2_with fail
        go_meet
        exact HF.out
      · refine opAt rfl ?_
        intro l us wx hJ hp hl K hK
        have HJ := Lib.hid hJ; have HP := Lib.hid hp; have HLI := Lib.hid hl; have HF := Lib.hid (hJ.live hl (by decide)); have HBX := Lib.hid (hJ.below HF.out); have HK := hK
        clear hJ hp hl hK
        simp only [At, List.foldl_cons, List.foldl_nil, List.setIfInBounds_toArray, List.set_cons_zero, List.set_cons_succ] at HK
        have HK := Lib.hid HK
        have t0 := keep_cell HBX.out t0
        have t1 := keep_cell HBX.out t1
        simp only [At, List.foldl_cons, List.foldl_nil, List.setIfInBounds_toArray, List.set_cons_zero, List.set_cons_succ]
        refine ⟨?_⟩
        go_simp
        exact HK.out (upd us 27 (.agg #[.slice A n c, .bool b])) wx (by exact HJ.out.go HSTL (by kernel_rfl) 0 HF.out (by decide) (by decide) HP.out (Below.refl _ _) (.agg #[.slice A n c, .bool b]) (HQ.out.below HBX.out))
      · refine opAt rfl ?_
        intro l us wx hJ hp hl K hK
        have HJ := Lib.hid hJ; have HP := Lib.hid hp; have HLI := Lib.hid hl; have HF := Lib.hid (hJ.live hl (by decide)); have HBX := Lib.hid (hJ.below HF.out); have HK := hK
        clear hJ hp hl hK
        simp only [At, List.foldl_cons, List.foldl_nil, List.setIfInBounds_toArray, List.set_cons_zero, List.set_cons_succ] at HK
        have HK := Lib.hid HK
        have h27 : Ri wx (us 27) (q) := HJ.out.val HF.out 0 (by decide) (HP.out 0 (by kernel_rfl))
        obtain ⟨A27, n27, q27, b27, e27⟩ := h27.form
        simp only [At, List.foldl_cons, List.foldl_nil, List.setIfInBounds_toArray, List.set_cons_zero, List.set_cons_succ]
        refine ⟨?_⟩
        go_simp
        go_wp2_with ((go_at_call 127; (with_reducible refine (HMF.out _ _ (by rw [e27] at h27; exact h27)).mono ?_); rintro en w9 ⟨v9, rfl, hv9, hbz⟩; have HV := Lib.hid hv9; clear hv9; have HC := Lib.hid hbz; clear hbz))
        exact HK.out (upd (upd us 27 (.agg #[.slice A27 n27 q27, .bool b27])) 28 (v9)) w9 (by rw [upd_self e27]; exact HJ.out.go HSTL (by kernel_rfl) 1 HF.out (by decide) (by decide) HP.out HC.out (v9) (HV.out))
      · refine opAt rfl ?_
        intro l us wx hJ hp hl K hK
        have HJ := Lib.hid hJ; have HP := Lib.hid hp; have HLI := Lib.hid hl; have HF := Lib.hid (hJ.live hl (by decide)); have HBX := Lib.hid (hJ.below HF.out); have HK := hK
        clear hJ hp hl hK
        simp only [At, List.foldl_cons, List.foldl_nil, List.setIfInBounds_toArray, List.set_cons_zero, List.set_cons_succ] at HK
        have HK := Lib.hid HK
        simp only [At, List.foldl_cons, List.foldl_nil, List.setIfInBounds_toArray, List.set_cons_zero, List.set_cons_succ]
        refine ⟨?_⟩
        go_simp
        exact HK.out (upd us 29 (.pointer (some ⟨w.heap.size, 2, none⟩))) wx (by exact HJ.out.go HSTL (by kernel_rfl) 2 HF.out (by decide) (by decide) HP.out (Below.refl _ _) (.pointer (some ⟨w.heap.size, 2, none⟩)) (rfl))
      · refine opAt rfl ?_
        intro l us wx hJ hp hl K hK
        have HJ := Lib.hid hJ; have HP := Lib.hid hp; have HLI := Lib.hid hl; have HF := Lib.hid (hJ.live hl (by decide)); have HBX := Lib.hid (hJ.below HF.out); have HK := hK
        clear hJ hp hl hK
        simp only [At, List.foldl_cons, List.foldl_nil, List.setIfInBounds_toArray, List.set_cons_zero, List.set_cons_succ] at HK
        have HK := Lib.hid HK
        have h29 : us 29 = .pointer (some ⟨w.heap.size, 2, none⟩) := HJ.out.val HF.out 2 (by decide) (HP.out 2 (by kernel_rfl))
        have c20 := keep_cell HBX.out c20
        simp only [At, List.foldl_cons, List.foldl_nil, List.setIfInBounds_toArray, List.set_cons_zero, List.set_cons_succ]
        refine ⟨?_⟩
        go_simp
        exact HK.out (upd (upd us 29 (.pointer (some ⟨w.heap.size, 2, none⟩))) 30 (.int .i64 ex)) wx (by rw [upd_self h29]; exact HJ.out.go HSTL (by kernel_rfl) 3 HF.out (by decide) (by decide) HP.out (Below.refl _ _) (.int .i64 ex) (rfl))
      · refine opAt rfl ?_
        intro l us wx hJ hp hl K hK
        have HJ := Lib.hid hJ; have HP := Lib.hid hp; have HLI := Lib.hid hl; have HF := Lib.hid (hJ.live hl (by decide)); have HBX := Lib.hid (hJ.below HF.out); have HK := hK
        clear hJ hp hl hK
        simp only [At, List.foldl_cons, List.foldl_nil, List.setIfInBounds_toArray, List.set_cons_zero, List.set_cons_succ] at HK
        have HK := Lib.hid HK
        simp only [At, List.foldl_cons, List.foldl_nil, List.setIfInBounds_toArray, List.set_cons_zero, List.set_cons_succ]
        refine ⟨?_⟩
        go_simp
        exact HK.out (upd us 31 (.int .i64 (kk : Int))) wx (by exact HJ.out.go HSTL (by kernel_rfl) 4 HF.out (by decide) (by decide) HP.out (Below.refl _ _) (.int .i64 (kk : Int)) (rfl))
      · refine opAt rfl ?_
        intro l us wx hJ hp hl K hK
        have HJ := Lib.hid hJ; have HP := Lib.hid hp; have HLI := Lib.hid hl; have HF := Lib.hid (hJ.live hl (by decide)); have HBX := Lib.hid (hJ.below HF.out); have HK := hK
        clear hJ hp hl hK
        simp only [At, List.foldl_cons, List.foldl_nil, List.setIfInBounds_toArray, List.set_cons_zero, List.set_cons_succ] at HK
        have HK := Lib.hid HK
        have h30 : us 30 = .int .i64 ex := HJ.out.val HF.out 3 (by decide) (HP.out 3 (by kernel_rfl))
        have h31 : us 31 = .int .i64 (kk : Int) := HJ.out.val HF.out 4 (by decide) (HP.out 4 (by kernel_rfl))
        simp only [At, List.foldl_cons, List.foldl_nil, List.setIfInBounds_toArray, List.set_cons_zero, List.set_cons_succ]
        refine ⟨?_⟩
        go_simp
        exact HK.out (upd (upd (upd us 30 (.int .i64 ex)) 31 (.int .i64 (kk : Int))) 32 (.int .i64 (ex - (kk : Int)))) wx (by rw [upd_self h30, upd_self h31]; exact HJ.out.go HSTL (by kernel_rfl) 5 HF.out (by decide) (by decide) HP.out (Below.refl _ _) (.int .i64 (ex - (kk : Int))) (rfl))
      · refine opAt rfl ?_
        intro l us wx hJ hp hl K hK
        have HJ := Lib.hid hJ; have HP := Lib.hid hp; have HLI := Lib.hid hl; have HF := Lib.hid (hJ.live hl (by decide)); have HBX := Lib.hid (hJ.below HF.out); have HK := hK
        clear hJ hp hl hK
        simp only [At, List.foldl_cons, List.foldl_nil, List.setIfInBounds_toArray, List.set_cons_zero, List.set_cons_succ] at HK
        have HK := Lib.hid HK
        simp only [At, List.foldl_cons, List.foldl_nil, List.setIfInBounds_toArray, List.set_cons_zero, List.set_cons_succ]
        refine ⟨?_⟩
        go_simp
        exact HK.out (upd us 33 (.pointer (some ⟨w.heap.size + 1, 2, none⟩))) wx (by exact HJ.out.go HSTL (by kernel_rfl) 6 HF.out (by decide) (by decide) HP.out (Below.refl _ _) (.pointer (some ⟨w.heap.size + 1, 2, none⟩)) (rfl))
      · refine opAt rfl ?_
        intro l us wx hJ hp hl K hK
        have HJ := Lib.hid hJ; have HP := Lib.hid hp; have HLI := Lib.hid hl; have HF := Lib.hid (hJ.live hl (by decide)); have HBX := Lib.hid (hJ.below HF.out); have HK := hK
        clear hJ hp hl hK
        simp only [At, List.foldl_cons, List.foldl_nil, List.setIfInBounds_toArray, List.set_cons_zero, List.set_cons_succ] at HK
        have HK := Lib.hid HK
        have h33 : us 33 = .pointer (some ⟨w.heap.size + 1, 2, none⟩) := HJ.out.val HF.out 6 (by decide) (HP.out 6 (by kernel_rfl))
        have z20 := keep_cell HBX.out z20
        simp only [At, List.foldl_cons, List.foldl_nil, List.setIfInBounds_toArray, List.set_cons_zero, List.set_cons_succ]
        refine ⟨?_⟩
        go_simp
        exact HK.out (upd (upd us 33 (.pointer (some ⟨w.heap.size + 1, 2, none⟩))) 34 (.int .i64 ey)) wx (by rw [upd_self h33]; exact HJ.out.go HSTL (by kernel_rfl) 7 HF.out (by decide) (by decide) HP.out (Below.refl _ _) (.int .i64 ey) (rfl))
      · refine opAt rfl ?_
        intro l us wx hJ hp hl K hK
        have HJ := Lib.hid hJ; have HP := Lib.hid hp; have HLI := Lib.hid hl; have HF := Lib.hid (hJ.live hl (by decide)); have HBX := Lib.hid (hJ.below HF.out); have HK := hK
        clear hJ hp hl hK
        simp only [At, List.foldl_cons, List.foldl_nil, List.setIfInBounds_toArray, List.set_cons_zero, List.set_cons_succ] at HK
        have HK := Lib.hid HK
        have h32 : us 32 = .int .i64 (ex - (kk : Int)) := HJ.out.val HF.out 5 (by decide) (HP.out 5 (by kernel_rfl))
        have h34 : us 34 = .int .i64 ey := HJ.out.val HF.out 7 (by decide) (HP.out 7 (by kernel_rfl))
        simp only [At, List.foldl_cons, List.foldl_nil, List.setIfInBounds_toArray, List.set_cons_zero, List.set_cons_succ]
        refine ⟨?_⟩
        go_simp
        exact HK.out (upd (upd (upd us 32 (.int .i64 (ex - (kk : Int)))) 34 (.int .i64 ey)) 35 (.int .i64 (ex - (kk : Int) - ey))) wx (by rw [upd_self h32, upd_self h34]; exact HJ.out.go HSTL (by kernel_rfl) 8 HF.out (by decide) (by decide) HP.out (Below.refl _ _) (.int .i64 (ex - (kk : Int) - ey)) (rfl))
      · refine opAt rfl ?_
        intro l us wx hJ hp hl K hK
        have HJ := Lib.hid hJ; have HP := Lib.hid hp; have HLI := Lib.hid hl; have HF := Lib.hid (hJ.live hl (by decide)); have HBX := Lib.hid (hJ.below HF.out); have HK := hK
        clear hJ hp hl hK
        simp only [At, List.foldl_cons, List.foldl_nil, List.setIfInBounds_toArray, List.set_cons_zero, List.set_cons_succ] at HK
        have HK := Lib.hid HK
        have h35 : us 35 = .int .i64 (ex - (kk : Int) - ey) := HJ.out.val HF.out 8 (by decide) (HP.out 8 (by kernel_rfl))
        simp only [At, List.foldl_cons, List.foldl_nil, List.setIfInBounds_toArray, List.set_cons_zero, List.set_cons_succ]
        refine ⟨?_⟩
        go_simp
        exact HK.out (upd (upd us 35 (.int .i64 (ex - (kk : Int) - ey))) 36 (.int .i64 (ex - (kk : Int) - ey - 1))) wx (by rw [upd_self h35]; exact HJ.out.go HSTL (by kernel_rfl) 9 HF.out (by decide) (by decide) HP.out (Below.refl _ _) (.int .i64 (ex - (kk : Int) - ey - 1)) (rfl))
      · refine opAt rfl ?_
        intro l us wx hJ hp hl K hK
        have HJ := Lib.hid hJ; have HP := Lib.hid hp; have HLI := Lib.hid hl; have HF := Lib.hid (hJ.live hl (by decide)); have HBX := Lib.hid (hJ.below HF.out); have HK := hK
        clear hJ hp hl hK
        simp only [At, List.foldl_cons, List.foldl_nil, List.setIfInBounds_toArray, List.set_cons_zero, List.set_cons_succ] at HK
        have HK := Lib.hid HK
        have h28 : Ri wx (us 28) (10 * q + addS q false) := HJ.out.val HF.out 1 (by decide) (HP.out 1 (by kernel_rfl))
        obtain ⟨A28, n28, q28, b28, e28⟩ := h28.form
        have h36 : us 36 = .int .i64 (ex - (kk : Int) - ey - 1) := HJ.out.val HF.out 9 (by decide) (HP.out 9 (by kernel_rfl))
        simp only [At, List.foldl_cons, List.foldl_nil, List.setIfInBounds_toArray, List.set_cons_zero, List.set_cons_succ]
        refine ⟨?_⟩
        go_simp
        exact HK.out (upd (upd (upd us 28 (.agg #[.slice A28 n28 q28, .bool b28])) 36 (.int .i64 (ex - (kk : Int) - ey - 1))) 37 (.agg #[.slice A28 n28 q28, .bool b28, .int .i64 (ex - (kk : Int) - ey - 1)])) wx (by rw [upd_self e28, upd_self h36]; exact HJ.out.go HSTL (by kernel_rfl) 10 HF.out (by decide) (by decide) HP.out (Below.refl _ _) (.agg #[.slice A28 n28 q28, .bool b28, .int .i64 (ex - (kk : Int) - ey - 1)]) (⟨A28, n28, q28, b28, rfl, by rw [← e28]; exact h28⟩))
      · refine opAt rfl ?_
        intro l us wx hJ hp hl K hK
        have HJ := Lib.hid hJ; have HP := Lib.hid hp; have HLI := Lib.hid hl; have HF := Lib.hid (hJ.live hl (by decide)); have HBX := Lib.hid (hJ.below HF.out); have HK := hK
        clear hJ hp hl hK
        simp only [At, List.foldl_cons, List.foldl_nil, List.setIfInBounds_toArray, List.set_cons_zero, List.set_cons_succ] at HK
        have HK := Lib.hid HK
        have h37 : Dc wx (us 37) (10 * q + addS q false) (ex - (kk : Int) - ey - 1) := HJ.out.val HF.out 10 (by decide) (HP.out 10 (by kernel_rfl))
        obtain ⟨A37, n37, q37, b37, e37, hr37⟩ := h37
        have hb9 := heapB HBX.out HX2.out
        obtain ⟨d0, d1, d2⟩ := three_cells hb9
        have f0 := free_of_heap hb9 0; have f1 := free_of_heap hb9 1; have f2 := free_of_heap hb9 2
        obtain ⟨F, hF, r0, r1, r2, hri, hfb⟩ := dc_put (e := ex - (kk : Int) - ey - 1) hr37 hb9
        have HR9 := Lib.hid hri; have HFB := Lib.hid (hfb w.heap.size w (by omega) (belowT HB.out HBX.out))
        clear hri hfb hr37
        simp only [At, List.foldl_cons, List.foldl_nil, List.setIfInBounds_toArray, List.set_cons_zero, List.set_cons_succ]
        refine ⟨?_⟩
        go_simp
        (try rw [hF])
        exact HK.out (upd us 37 (.agg #[.slice A37 n37 q37, .bool b37, .int .i64 (ex - (kk : Int) - ey - 1)])) _ (by rw [upd_self e37]; exact HJ.out.store (by kernel_rfl) HLI.out HP.out (⟨A37, n37, q37, b37, r0, r1, r2, HR9.out, HFB.out⟩))
    obtain ⟨A9, n9, c9, b9, r0, r1, r2, HR9, HB9⟩ := hcut
    go_wp2_with fail
    refine bodyPost_ret (v := .agg #[.slice A9 n9 c9, .bool b9, .int .i64 (ex - (kk : Int) - ey - 1)]) (by simp [results, Tryz.results53, go_sem, r0, r1, r2]) rfl ?_
    exact ⟨_, rfl, ⟨A9, n9, c9, b9, rfl, by rw [HDC.out]; exact HR9.out⟩, HB9.out⟩
  · have HDC : Hid (decide (r ≠ 0) = true) := by show _ = _; simp [hr0]
    have hnz : ((n' : Int) == 0) = false := by
      rw [beq_eq_false_iff_ne]
      have : n' ≠ 0 := by
        rw [hn']
        intro h0
        have := (dg_eq_nil (b := 10) (by decide)).1 (List.eq_nil_of_length_eq_zero h0)
        omega
      omega
    clear HRR hn' hr0
    go_upto_region 6 with fail
    rw [HU.out]
    go_cut [48] from 38 to 48 (fun _ wx => ∃ A n c b, wx.cell? ⟨w.heap.size + 2, 0, none⟩ = some (.slice A n c) ∧ wx.cell? ⟨w.heap.size + 2, 1, none⟩ = some (.bool b) ∧ wx.cell? ⟨w.heap.size + 2, 2, none⟩ = some (.int .i64 (ex - (kk : Int) - ey - 1)) ∧ Hid (Ri wx (.agg #[.slice A n c, .bool b]) (10 * q + addS q true)) ∧ Hid (Below w.heap.size w wx))
    case first =>
      have HSTL : StableL [(fun w v => Ri w v (q)), (fun w v => Ri w v (10 * q + addS q true)), (fun _ v => v = .pointer (some ⟨w.heap.size, 2, none⟩)), (fun _ v => v = .int .i64 ex), (fun _ v => v = .int .i64 (kk : Int)), (fun _ v => v = .int .i64 (ex - (kk : Int))), (fun _ v => v = .pointer (some ⟨w.heap.size + 1, 2, none⟩)), (fun _ v => v = .int .i64 ey), (fun _ v => v = .int .i64 (ex - (kk : Int) - ey)), (fun _ v => v = .int .i64 (ex - (kk : Int) - ey - 1)), (fun w v => Dc w v (10 * q + addS q true) (ex - (kk : Int) - ey - 1)), (fun _ _ => True)] := ⟨(fun _ _ _ hb h => Ri.below h hb), (fun _ _ _ hb h => Ri.below h hb), (fun _ _ _ _ h => h), (fun _ _ _ _ h => h), (fun _ _ _ _ h => h), (fun _ _ _ _ h => h), (fun _ _ _ _ h => h), (fun _ _ _ _ h => h), (fun _ _ _ _ h => h), (fun _ _ _ _ h => h), (fun _ _ _ hb h => Dc.below h hb), (fun _ _ _ _ h => h), trivial⟩
      refine wp_region_p [38, 39, 40, 41, 42, 43, 44, 45, 46, 47, 48] [38, 39, 40, 41, 42, 43, 44, 45, 46, 47, 48, 1000] [(fun w v => Ri w v (q)), (fun w v => Ri w v (10 * q + addS q true)), (fun _ v => v = .pointer (some ⟨w.heap.size, 2, none⟩)), (fun _ v => v = .int .i64 ex), (fun _ v => v = .int .i64 (kk : Int)), (fun _ v => v = .int .i64 (ex - (kk : Int))), (fun _ v => v = .pointer (some ⟨w.heap.size + 1, 2, none⟩)), (fun _ v => v = .int .i64 ey), (fun _ v => v = .int .i64 (ex - (kk : Int) - ey)), (fun _ v => v = .int .i64 (ex - (kk : Int) - ey - 1)), (fun w v => Dc w v (10 * q + addS q true) (ex - (kk : Int) - ey - 1)), (fun _ _ => True)] 11 (fun _ wx => ∃ A n c b, wx.cell? ⟨w.heap.size + 2, 0, none⟩ = some (.slice A n c) ∧ wx.cell? ⟨w.heap.size + 2, 1, none⟩ = some (.bool b) ∧ wx.cell? ⟨w.heap.size + 2, 2, none⟩ = some (.int .i64 (ex - (kk : Int) - ey - 1)) ∧ Hid (Ri wx (.agg #[.slice A n c, .bool b]) (10 * q + addS q true)) ∧ Hid (Below w.heap.size w wx)) 12 rfl (by kernel_rfl) (by kernel_rfl) ?_ ⟨?_, ?_, ?_, ?_, ?_, ?_, ?_, ?_, ?_, ?_, ?_, ?_, trivial⟩
      · intro l us wx hl hJ
        have HF := Lib.hid (hJ.ended hl (by decide))
        clear hl hJ
        simp only [At, List.foldl_cons, List.foldl_nil, List.setIfInBounds_toArray, List.set_cons_zero, List.set_cons_succ]
        go_wp2_with fail
        go_meet
        exact HF.out
      · refine opAt rfl ?_
        intro l us wx hJ hp hl K hK
        have HJ := Lib.hid hJ; have HP := Lib.hid hp; have HLI := Lib.hid hl; have HF := Lib.hid (hJ.live hl (by decide)); have HBX := Lib.hid (hJ.below HF.out); have HK := hK
        clear hJ hp hl hK
        simp only [At, List.foldl_cons, List.foldl_nil, List.setIfInBounds_toArray, List.set_cons_zero, List.set_cons_succ] at HK
        have HK := Lib.hid HK
        have t0 := keep_cell HBX.out t0
        have t1 := keep_cell HBX.out t1
        simp only [At, List.foldl_cons, List.foldl_nil, List.setIfInBounds_toArray, List.set_cons_zero, List.set_cons_succ]
        refine ⟨?_⟩
        go_simp
        exact HK.out (upd us 38 (.agg #[.slice A n c, .bool b])) wx (by exact HJ.out.go HSTL (by kernel_rfl) 0 HF.out (by decide) (by decide) HP.out (Below.refl _ _) (.agg #[.slice A n c, .bool b]) (HQ.out.below HBX.out))
      · refine opAt rfl ?_
        intro l us wx hJ hp hl K hK
        have HJ := Lib.hid hJ; have HP := Lib.hid hp; have HLI := Lib.hid hl; have HF := Lib.hid (hJ.live hl (by decide)); have HBX := Lib.hid (hJ.below HF.out); have HK := hK
        clear hJ hp hl hK
        simp only [At, List.foldl_cons, List.foldl_nil, List.setIfInBounds_toArray, List.set_cons_zero, List.set_cons_succ] at HK
        have HK := Lib.hid HK
        have h38 : Ri wx (us 38) (q) := HJ.out.val HF.out 0 (by decide) (HP.out 0 (by kernel_rfl))
        obtain ⟨A38, n38, q38, b38, e38⟩ := h38.form
        simp only [At, List.foldl_cons, List.foldl_nil, List.setIfInBounds_toArray, List.set_cons_zero, List.set_cons_succ]
        refine ⟨?_⟩
        go_simp
        go_wp2_with ((go_at_call 127; (with_reducible refine (HMT.out _ _ (by rw [e38] at h38; exact h38)).mono ?_); rintro en w9 ⟨v9, rfl, hv9, hbz⟩; have HV := Lib.hid hv9; clear hv9; have HC := Lib.hid hbz; clear hbz))
        exact HK.out (upd (upd us 38 (.agg #[.slice A38 n38 q38, .bool b38])) 39 (v9)) w9 (by rw [upd_self e38]; exact HJ.out.go HSTL (by kernel_rfl) 1 HF.out (by decide) (by decide) HP.out HC.out (v9) (HV.out))
      · refine opAt rfl ?_
        intro l us wx hJ hp hl K hK
        have HJ := Lib.hid hJ; have HP := Lib.hid hp; have HLI := Lib.hid hl; have HF := Lib.hid (hJ.live hl (by decide)); have HBX := Lib.hid (hJ.below HF.out); have HK := hK
        clear hJ hp hl hK
        simp only [At, List.foldl_cons, List.foldl_nil, List.setIfInBounds_toArray, List.set_cons_zero, List.set_cons_succ] at HK
        have HK := Lib.hid HK
        simp only [At, List.foldl_cons, List.foldl_nil, List.setIfInBounds_toArray, List.set_cons_zero, List.set_cons_succ]
        refine ⟨?_⟩
        go_simp
        exact HK.out (upd us 40 (.pointer (some ⟨w.heap.size, 2, none⟩))) wx (by exact HJ.out.go HSTL (by kernel_rfl) 2 HF.out (by decide) (by decide) HP.out (Below.refl _ _) (.pointer (some ⟨w.heap.size, 2, none⟩)) (rfl))
      · refine opAt rfl ?_
        intro l us wx hJ hp hl K hK
        have HJ := Lib.hid hJ; have HP := Lib.hid hp; have HLI := Lib.hid hl; have HF := Lib.hid (hJ.live hl (by decide)); have HBX := Lib.hid (hJ.below HF.out); have HK := hK
        clear hJ hp hl hK
        simp only [At, List.foldl_cons, List.foldl_nil, List.setIfInBounds_toArray, List.set_cons_zero, List.set_cons_succ] at HK
        have HK := Lib.hid HK
        have h40 : us 40 = .pointer (some ⟨w.heap.size, 2, none⟩) := HJ.out.val HF.out 2 (by decide) (HP.out 2 (by kernel_rfl))
        have c20 := keep_cell HBX.out c20
        simp only [At, List.foldl_cons, List.foldl_nil, List.setIfInBounds_toArray, List.set_cons_zero, List.set_cons_succ]
        refine ⟨?_⟩
        go_simp
        exact HK.out (upd (upd us 40 (.pointer (some ⟨w.heap.size, 2, none⟩))) 41 (.int .i64 ex)) wx (by rw [upd_self h40]; exact HJ.out.go HSTL (by kernel_rfl) 3 HF.out (by decide) (by decide) HP.out (Below.refl _ _) (.int .i64 ex) (rfl))
      · refine opAt rfl ?_
        intro l us wx hJ hp hl K hK
        have HJ := Lib.hid hJ; have HP := Lib.hid hp; have HLI := Lib.hid hl; have HF := Lib.hid (hJ.live hl (by decide)); have HBX := Lib.hid (hJ.below HF.out); have HK := hK
        clear hJ hp hl hK
        simp only [At, List.foldl_cons, List.foldl_nil, List.setIfInBounds_toArray, List.set_cons_zero, List.set_cons_succ] at HK
        have HK := Lib.hid HK
        simp only [At, List.foldl_cons, List.foldl_nil, List.setIfInBounds_toArray, List.set_cons_zero, List.set_cons_succ]
        refine ⟨?_⟩
        go_simp
        exact HK.out (upd us 42 (.int .i64 (kk : Int))) wx (by exact HJ.out.go HSTL (by kernel_rfl) 4 HF.out (by decide) (by decide) HP.out (Below.refl _ _) (.int .i64 (kk : Int)) (rfl))
      · refine opAt rfl ?_
        intro l us wx hJ hp hl K hK
        have HJ := Lib.hid hJ; have HP := Lib.hid hp; have HLI := Lib.hid hl; have HF := Lib.hid (hJ.live hl (by decide)); have HBX := Lib.hid (hJ.below HF.out); have HK := hK
        clear hJ hp hl hK
        simp only [At, List.foldl_cons, List.foldl_nil, List.setIfInBounds_toArray, List.set_cons_zero, List.set_cons_succ] at HK
        have HK := Lib.hid HK
        have h41 : us 41 = .int .i64 ex := HJ.out.val HF.out 3 (by decide) (HP.out 3 (by kernel_rfl))
        have h42 : us 42 = .int .i64 (kk : Int) := HJ.out.val HF.out 4 (by decide) (HP.out 4 (by kernel_rfl))
        simp only [At, List.foldl_cons, List.foldl_nil, List.setIfInBounds_toArray, List.set_cons_zero, List.set_cons_succ]
        refine ⟨?_⟩
        go_simp
        exact HK.out (upd (upd (upd us 41 (.int .i64 ex)) 42 (.int .i64 (kk : Int))) 43 (.int .i64 (ex - (kk : Int)))) wx (by rw [upd_self h41, upd_self h42]; exact HJ.out.go HSTL (by kernel_rfl) 5 HF.out (by decide) (by decide) HP.out (Below.refl _ _) (.int .i64 (ex - (kk : Int))) (rfl))
      · refine opAt rfl ?_
        intro l us wx hJ hp hl K hK
        have HJ := Lib.hid hJ; have HP := Lib.hid hp; have HLI := Lib.hid hl; have HF := Lib.hid (hJ.live hl (by decide)); have HBX := Lib.hid (hJ.below HF.out); have HK := hK
        clear hJ hp hl hK
        simp only [At, List.foldl_cons, List.foldl_nil, List.setIfInBounds_toArray, List.set_cons_zero, List.set_cons_succ] at HK
        have HK := Lib.hid HK
        simp only [At, List.foldl_cons, List.foldl_nil, List.setIfInBounds_toArray, List.set_cons_zero, List.set_cons_succ]
        refine ⟨?_⟩
        go_simp
        exact HK.out (upd us 44 (.pointer (some ⟨w.heap.size + 1, 2, none⟩))) wx (by exact HJ.out.go HSTL (by kernel_rfl) 6 HF.out (by decide) (by decide) HP.out (Below.refl _ _) (.pointer (some ⟨w.heap.size + 1, 2, none⟩)) (rfl))
      · refine opAt rfl ?_
        intro l us wx hJ hp hl K hK
        have HJ := Lib.hid hJ; have HP := Lib.hid hp; have HLI := Lib.hid hl; have HF := Lib.hid (hJ.live hl (by decide)); have HBX := Lib.hid (hJ.below HF.out); have HK := hK
        clear hJ hp hl hK
        simp only [At, List.foldl_cons, List.foldl_nil, List.setIfInBounds_toArray, List.set_cons_zero, List.set_cons_succ] at HK
        have HK := Lib.hid HK
        have h44 : us 44 = .pointer (some ⟨w.heap.size + 1, 2, none⟩) := HJ.out.val HF.out 6 (by decide) (HP.out 6 (by kernel_rfl))
        have z20 := keep_cell HBX.out z20
        simp only [At, List.foldl_cons, List.foldl_nil, List.setIfInBounds_toArray, List.set_cons_zero, List.set_cons_succ]
        refine ⟨?_⟩
        go_simp
        exact HK.out (upd (upd us 44 (.pointer (some ⟨w.heap.size + 1, 2, none⟩))) 45 (.int .i64 ey)) wx (by rw [upd_self h44]; exact HJ.out.go HSTL (by kernel_rfl) 7 HF.out (by decide) (by decide) HP.out (Below.refl _ _) (.int .i64 ey) (rfl))
      · refine opAt rfl ?_
        intro l us wx hJ hp hl K hK
        have HJ := Lib.hid hJ; have HP := Lib.hid hp; have HLI := Lib.hid hl; have HF := Lib.hid (hJ.live hl (by decide)); have HBX := Lib.hid (hJ.below HF.out); have HK := hK
        clear hJ hp hl hK
        simp only [At, List.foldl_cons, List.foldl_nil, List.setIfInBounds_toArray, List.set_cons_zero, List.set_cons_succ] at HK
        have HK := Lib.hid HK
        have h43 : us 43 = .int .i64 (ex - (kk : Int)) := HJ.out.val HF.out 5 (by decide) (HP.out 5 (by kernel_rfl))
        have h45 : us 45 = .int .i64 ey := HJ.out.val HF.out 7 (by decide) (HP.out 7 (by kernel_rfl))
        simp only [At, List.foldl_cons, List.foldl_nil, List.setIfInBounds_toArray, List.set_cons_zero, List.set_cons_succ]
        refine ⟨?_⟩
        go_simp
        exact HK.out (upd (upd (upd us 43 (.int .i64 (ex - (kk : Int)))) 45 (.int .i64 ey)) 46 (.int .i64 (ex - (kk : Int) - ey))) wx (by rw [upd_self h43, upd_self h45]; exact HJ.out.go HSTL (by kernel_rfl) 8 HF.out (by decide) (by decide) HP.out (Below.refl _ _) (.int .i64 (ex - (kk : Int) - ey)) (rfl))
      · refine opAt rfl ?_
        intro l us wx hJ hp hl K hK
        have HJ := Lib.hid hJ; have HP := Lib.hid hp; have HLI := Lib.hid hl; have HF := Lib.hid (hJ.live hl (by decide)); have HBX := Lib.hid (hJ.below HF.out); have HK := hK
        clear hJ hp hl hK
        simp only [At, List.foldl_cons, List.foldl_nil, List.setIfInBounds_toArray, List.set_cons_zero, List.set_cons_succ] at HK
        have HK := Lib.hid HK
        have h46 : us 46 = .int .i64 (ex - (kk : Int) - ey) := HJ.out.val HF.out 8 (by decide) (HP.out 8 (by kernel_rfl))
        simp only [At, List.foldl_cons, List.foldl_nil, List.setIfInBounds_toArray, List.set_cons_zero, List.set_cons_succ]
        refine ⟨?_⟩
        go_simp
        exact HK.out (upd (upd us 46 (.int .i64 (ex - (kk : Int) - ey))) 47 (.int .i64 (ex - (kk : Int) - ey - 1))) wx (by rw [upd_self h46]; exact HJ.out.go HSTL (by kernel_rfl) 9 HF.out (by decide) (by decide) HP.out (Below.refl _ _) (.int .i64 (ex - (kk : Int) - ey - 1)) (rfl))
      · refine opAt rfl ?_
        intro l us wx hJ hp hl K hK
        have HJ := Lib.hid hJ; have HP := Lib.hid hp; have HLI := Lib.hid hl; have HF := Lib.hid (hJ.live hl (by decide)); have HBX := Lib.hid (hJ.below HF.out); have HK := hK
        clear hJ hp hl hK
        simp only [At, List.foldl_cons, List.foldl_nil, List.setIfInBounds_toArray, List.set_cons_zero, List.set_cons_succ] at HK
        have HK := Lib.hid HK
        have h39 : Ri wx (us 39) (10 * q + addS q true) := HJ.out.val HF.out 1 (by decide) (HP.out 1 (by kernel_rfl))
        obtain ⟨A39, n39, q39, b39, e39⟩ := h39.form
        have h47 : us 47 = .int .i64 (ex - (kk : Int) - ey - 1) := HJ.out.val HF.out 9 (by decide) (HP.out 9 (by kernel_rfl))
        simp only [At, List.foldl_cons, List.foldl_nil, List.setIfInBounds_toArray, List.set_cons_zero, List.set_cons_succ]
        refine ⟨?_⟩
        go_simp
        exact HK.out (upd (upd (upd us 39 (.agg #[.slice A39 n39 q39, .bool b39])) 47 (.int .i64 (ex - (kk : Int) - ey - 1))) 48 (.agg #[.slice A39 n39 q39, .bool b39, .int .i64 (ex - (kk : Int) - ey - 1)])) wx (by rw [upd_self e39, upd_self h47]; exact HJ.out.go HSTL (by kernel_rfl) 10 HF.out (by decide) (by decide) HP.out (Below.refl _ _) (.agg #[.slice A39 n39 q39, .bool b39, .int .i64 (ex - (kk : Int) - ey - 1)]) (⟨A39, n39, q39, b39, rfl, by rw [← e39]; exact h39⟩))
      · refine opAt rfl ?_
        intro l us wx hJ hp hl K hK
        have HJ := Lib.hid hJ; have HP := Lib.hid hp; have HLI := Lib.hid hl; have HF := Lib.hid (hJ.live hl (by decide)); have HBX := Lib.hid (hJ.below HF.out); have HK := hK
        clear hJ hp hl hK
        simp only [At, List.foldl_cons, List.foldl_nil, List.setIfInBounds_toArray, List.set_cons_zero, List.set_cons_succ] at HK
        have HK := Lib.hid HK
        have h48 : Dc wx (us 48) (10 * q + addS q true) (ex - (kk : Int) - ey - 1) := HJ.out.val HF.out 10 (by decide) (HP.out 10 (by kernel_rfl))
        obtain ⟨A48, n48, q48, b48, e48, hr48⟩ := h48
        have hb9 := heapB HBX.out HX2.out
        obtain ⟨d0, d1, d2⟩ := three_cells hb9
        have f0 := free_of_heap hb9 0; have f1 := free_of_heap hb9 1; have f2 := free_of_heap hb9 2
        obtain ⟨F, hF, r0, r1, r2, hri, hfb⟩ := dc_put (e := ex - (kk : Int) - ey - 1) hr48 hb9
        have HR9 := Lib.hid hri; have HFB := Lib.hid (hfb w.heap.size w (by omega) (belowT HB.out HBX.out))
        clear hri hfb hr48
        simp only [At, List.foldl_cons, List.foldl_nil, List.setIfInBounds_toArray, List.set_cons_zero, List.set_cons_succ]
        refine ⟨?_⟩
        go_simp
        (try rw [hF])
        exact HK.out (upd us 48 (.agg #[.slice A48 n48 q48, .bool b48, .int .i64 (ex - (kk : Int) - ey - 1)])) _ (by rw [upd_self e48]; exact HJ.out.store (by kernel_rfl) HLI.out HP.out (⟨A48, n48, q48, b48, r0, r1, r2, HR9.out, HFB.out⟩))
    obtain ⟨A9, n9, c9, b9, r0, r1, r2, HR9, HB9⟩ := hcut
    go_wp2_with fail
    refine bodyPost_ret (v := .agg #[.slice A9 n9 c9, .bool b9, .int .i64 (ex - (kk : Int) - ey - 1)]) (by simp [results, Tryz.results53, go_sem, r0, r1, r2]) rfl ?_
    exact ⟨_, rfl, ⟨A9, n9, c9, b9, rfl, by rw [HDC.out]; exact HR9.out⟩, HB9.out⟩
end Go.Proofs.YtekbfommnmikbaaGreatDoor
/- The reference of layer 2: Root. -/
namespace Go.Proofs.YtekbfommnmikbaaGreatDoor
set_option linter.unusedVariables false
set_option linter.unusedSimpArgs false
open Go.RowKit Go.Shelf Go.Proofs
attribute [local go_sem ↓] Go.wp_at_zero Go.wp_at_succ

/-- How many digits the reference lays behind a number whose root it takes. -/
def rtK (e : Int) : Nat := if (e - 30).tmod 2 = 0 then 30 else 31
theorem ri_of_dg {w : World} {A : Option Addr} {n c N : Nat} (h : Dg 10 w (.slice A n c) N) : Ri w (.agg #[.slice A n c, .bool false]) (N : Int) := ⟨.slice A n c, by rw [decide_eq_false (by omega)], h⟩
theorem dg_of_ri {w : World} {A : Option Addr} {n c : Nat} {b : Bool} {z : Int} (h : Ri w (.agg #[.slice A n c, .bool b]) z) : Dg 10 w (.slice A n c) z.natAbs := by
  obtain ⟨p, e, hd⟩ := h
  have hp : p = .slice A n c := by
    injection e with h1
    injection h1 with h2
    injection h2 with h3 _
    exact h3.symm
  rw [← hp]; exact hd

set_option maxRecDepth 100000 in
set_option maxHeartbeats 8000000 in
theorem sroot_c (v : Value) (M : Nat) (e : Int) (w : World) (h : Dc w v (M : Int) e) (hx : (dg 10 M).length ≤ 1000) (a0 : -10000 ≤ e) (a1 : e ≤ 10000) :
    Calls Tryz.prog 55 #[v] w fun en w' => ∃ v, en = .returned v ∧ Dc w' v (10 * (root (M * 10 ^ rtK e) : Int) + (if root (M * 10 ^ rtK e) * root (M * 10 ^ rtK e) = M * 10 ^ rtK e then 0 else 1)) ((e - rtK e).tdiv 2 - 1) ∧ Below w.heap.size w w' := by
  obtain ⟨A1, n1, p1, s1, rfl, hr1⟩ := h
  obtain ⟨W, hW, k0, k1, hbel, hsz⟩ := bx2h w #[.slice A1 n1 p1, .bool s1, .int .i64 e] #[.slice none 0 0, .bool false, .int .i64 0] 60 60
  obtain ⟨c0, c1, c2⟩ := three_cells k0
  have HK0 := Lib.hid k0; have HK1 := Lib.hid k1
  have HBEL := Lib.hid hbel
  have HR1 := Lib.hid (hr1.below hbel)
  obtain ⟨kk, hkk⟩ : ∃ kk, rtK e = kk := ⟨_, rfl⟩
  have hkb : kk = 30 ∨ kk = 31 := by rw [← hkk]; unfold rtK; split <;> simp
  have HKK := Lib.hid hkk
  rw [hkk]
  obtain ⟨N, hN⟩ : ∃ N, M * 10 ^ kk = N := ⟨_, rfl⟩
  have hNl : (dg 10 N).length ≤ 1031 := by
    rw [← hN]
    by_cases h0 : 0 < M
    · rw [dg_shift h0, List.length_append, List.length_replicate]; omega
    · have : M = 0 := by omega
      rw [this, Nat.zero_mul, dg_zero]; exact Nat.zero_le _
  have hNi : (M : Int) * 10 ^ kk = (N : Int) := by rw [← hN, Int.natCast_mul, Int.natCast_pow]; rfl
  rw [hN]
  obtain ⟨R, hR⟩ : ∃ R, root N = R := ⟨_, rfl⟩
  have hRl : (dg 10 R).length ≤ 1031 := by
    have := dg_length_mono (b := 10) (by decide) (root_self_le N)
    rw [hR] at this; omega
  have hRR : (dg 10 (R * R)).length ≤ 1031 := by
    have := dg_length_mono (b := 10) (by decide) (root_le N)
    rw [hR] at this; omega
  rw [hR]
  have HZR := Lib.hid (fun v w' hv => zeros_c v (M : Int) (kk : Int) kk w' hv (by rw [Int.natAbs_natCast]; omega) rfl (by omega))
  rw [hNi] at HZR
  have HRT := Lib.hid (fun v w' hd => rroot_c v N w' hd (by omega))
  rw [hR] at HRT
  obtain ⟨cb, hcb⟩ : ∃ cb : Bool, (cb = true ↔ ¬ R * R = N) := ⟨decide (¬ R * R = N), by simp⟩
  have hadd : (if R * R = N then (0 : Int) else 1) = addS (R : Int) cb := by
    unfold addS
    by_cases h : R * R = N
    · rw [if_pos h, if_neg (fun x => hcb.1 x h)]
    · rw [if_neg h, if_pos (hcb.2 h), if_neg (by omega)]
  rw [hadd]
  have hsg : sgn ((R : Int) * (R : Int) - (N : Int)) = 0 ↔ R * R = N := by
    have e1 : (R : Int) * (R : Int) = ((R * R : Nat) : Int) := (Int.natCast_mul R R).symm
    rw [e1]
    unfold sgn
    split
    · constructor <;> intro h <;> omega
    · split
      · constructor <;> intro h <;> omega
      · constructor <;> intro h <;> omega
  obtain ⟨sg, hsgv⟩ : ∃ sg, sgn ((R : Int) * (R : Int) - (N : Int)) = sg := ⟨_, rfl⟩
  have HCB : Hid ((sg != 0) = cb) := by
    show _ = _
    rw [Bool.eq_iff_iff, hcb, bne_iff_ne, ← hsgv]
    exact not_congr hsg
  have HPR := Lib.hid (fun v1 v2 w' h1 h2 => rproduct_c v1 v2 (R : Int) (R : Int) w' h1 h2 (by rw [Int.natAbs_natCast]; omega) (by rw [Int.natAbs_natCast]; omega))
  have HOR := Lib.hid (fun v1 v2 w' h1 h2 => rorder_c v1 v2 ((R : Int) * (R : Int)) (N : Int) w' h1 h2 (by rw [← Int.natCast_mul, Int.natAbs_natCast]; omega) (by rw [Int.natAbs_natCast]; omega))
  rw [hsgv] at HOR
  have HMO := Lib.hid (fun v w' hv => smore_c v (R : Int) cb w' hv (by rw [Int.natAbs_natCast]; omega))
  obtain ⟨t, ht⟩ : ∃ t, (e - 30).tmod 2 = t := ⟨_, rfl⟩
  have HKT : Hid (kk = if t = 0 then 30 else 31) := by show _ = _; rw [← hkk, ← ht]; rfl
  obtain ⟨E2, hE2⟩ : ∃ E2, (e - (kk : Int)).tdiv 2 = E2 := ⟨_, rfl⟩
  have hE2b : -10031 ≤ E2 ∧ E2 ≤ 10031 := by
    have := Int.natAbs_tdiv_le_natAbs (e - (kk : Int)) 2
    rw [hE2] at this
    omega
  obtain ⟨E21, E22⟩ := hE2b
  rw [hE2]
  clear k0 k1 hbel hr1 hx hkk hN hNl hNi hR hRl hRR hcb hadd hsg hsgv
  go_enter Tryz.func55, Tryz.ntmps55
  go_upto_if 12 with fail
  go_cut [3] from 12 to 14 (fun v3 wx => v3 = .int .i64 (kk : Int) ∧ wx = W)
  case first =>
    by_cases ht0 : t = 0
    · obtain rfl : kk = 30 := HKT.out.trans (if_pos ht0)
      have htb : (t != 0) = false := by simpa using ht0
      clear ht0
      go_wp2_with fail
      go_meet
      exact ⟨rfl, rfl⟩
    · obtain rfl : kk = 31 := HKT.out.trans (if_neg ht0)
      have htb : (t != 0) = true := by simpa using ht0
      clear ht0
      go_wp2_with fail
      go_meet
      exact ⟨rfl, rfl⟩
  obtain ⟨rfl, hT⟩ := hcut
  rw [hT]
  clear hT ht
  go_upto_region 6 with (first
    | (go_at_call 126; (with_reducible refine (HZR.out _ _ HR1.out).mono ?_); rintro en w2 ⟨v, rfl, hv, hbz⟩; obtain ⟨A3, n3, p3, b3, rfl⟩ := hv.form; have HV3 := Lib.hid hv; have HB2 := Lib.hid hbz; clear hv hbz)
    | (go_at_call 128; refine (HRT.out _ _ (dg_of_ri (HV3.out.below ((Below.refl _ _).alloc (Nat.le_refl _) _)))).mono ?_; rintro en w3 ⟨v, rfl, hd, -, hbz⟩; obtain ⟨A4, n4, p4, rfl⟩ := hd.form; have HD4 := Lib.hid hd; have HB3 := Lib.hid hbz; clear hd hbz))
  obtain ⟨V, hV⟩ : ∃ V, w2.alloc (.cells #[.slice A3 n3 p3, .bool b3] 58) = V := ⟨_, rfl⟩
  have hVh : V.heap[w2.heap.size]? = some (.cells #[.slice A3 n3 p3, .bool b3] 58 (0, 0)) := by rw [← hV]; exact heap_alloc_new _ _
  have hVb : Below w2.heap.size w2 V := by rw [← hV]; exact (Below.refl _ _).alloc (Nat.le_refl _) _
  rw [hV] at HB3
  obtain ⟨U, hU⟩ : ∃ U, w3.alloc (.cells #[.slice A4 n4 p4, .bool false] 58) = U := ⟨_, rfl⟩
  have hUh : U.heap[w3.heap.size]? = some (.cells #[.slice A4 n4 p4, .bool false] 58 (0, 0)) := by rw [← hU]; exact heap_alloc_new _ _
  have hUb : Below w3.heap.size w3 U := by rw [← hU]; exact (Below.refl _ _).alloc (Nat.le_refl _) _
  rw [hU]
  have HWU := Lib.hid (belowT (belowT (belowT HB2.out hVb) HB3.out) hUb)
  obtain ⟨m0, m1⟩ := two_cells (heapB hUb (heapB HB3.out hVh))
  obtain ⟨r0, r1⟩ := two_cells hUh
  have c2 := keep_cell HWU.out c2
  have HX1 := Lib.hid (heapB HWU.out HK1.out)
  have HRI := Lib.hid (ri_of_dg (HD4.out.below hUb))
  have HNI : Hid (Ri U (.agg #[.slice A3 n3 p3, .bool b3]) (N : Int)) := HV3.out.below (belowT (belowT hVb HB3.out) hUb)
  have HBU := Lib.hid (belowT HBEL.out HWU.out)
  clear hV hVh hVb hU hUh hUb c0 c1 HB3 HB2 HD4 HV3
  go_cut [6] from 23 to 28 (fun v wx => v = .bool cb ∧ Hid (Below U.heap.size U wx))
  case first =>
    have HSTL : StableL [(fun w v => Ri w v ((R : Int))), (fun w v => Ri w v ((R : Int))), (fun w v => Ri w v ((R : Int) * (R : Int))), (fun w v => Ri w v ((N : Int))), (fun _ v => v = .int .i64 sg), (fun _ v => v = .bool cb), (fun _ v => v = .bool cb)] := ⟨(fun _ _ _ hb h => Ri.below h hb), (fun _ _ _ hb h => Ri.below h hb), (fun _ _ _ hb h => Ri.below h hb), (fun _ _ _ hb h => Ri.below h hb), (fun _ _ _ _ h => h), (fun _ _ _ _ h => h), (fun _ _ _ _ h => h), trivial⟩
    refine wp_region_p [23, 24, 25, 26, 27, 28, 6] [23, 24, 25, 26, 27, 28, 6] [(fun w v => Ri w v ((R : Int))), (fun w v => Ri w v ((R : Int))), (fun w v => Ri w v ((R : Int) * (R : Int))), (fun w v => Ri w v ((N : Int))), (fun _ v => v = .int .i64 sg), (fun _ v => v = .bool cb), (fun _ v => v = .bool cb)] 7 (fun _ _ => True) 7 rfl (by kernel_rfl) (by kernel_rfl) ?_ ⟨?_, ?_, ?_, ?_, ?_, ?_, ?_, trivial⟩
    · intro l us wx hl hJ
      have HNF := hJ.nofin (by kernel_rfl)
      have HB := Lib.hid (hJ.below HNF)
      have h6 : us 6 = .bool cb := hJ.val HNF 6 (by decide) (hl 6 (by decide))
      clear hl hJ
      simp only [At, List.foldl_cons, List.foldl_nil, List.setIfInBounds_toArray, List.set_cons_zero, List.set_cons_succ]
      go_wp2_with fail
      go_meet
      exact ⟨by first | rfl | assumption, HB⟩
    · refine opAt rfl ?_
      intro l us wx hJ hp hl K hK
      have HJ := Lib.hid hJ; have HP := Lib.hid hp; have HLI := Lib.hid hl; have HF := Lib.hid (hJ.live hl (by decide)); have HBX := Lib.hid (hJ.below HF.out); have HK := hK
      clear hJ hp hl hK
      simp only [At, List.foldl_cons, List.foldl_nil, List.setIfInBounds_toArray, List.set_cons_zero, List.set_cons_succ] at HK
      have HK := Lib.hid HK
      have r0 := keep_cell HBX.out r0
      have r1 := keep_cell HBX.out r1
      simp only [At, List.foldl_cons, List.foldl_nil, List.setIfInBounds_toArray, List.set_cons_zero, List.set_cons_succ]
      refine ⟨?_⟩
      go_simp
      exact HK.out (upd us 23 (.agg #[.slice A4 n4 p4, .bool false])) wx (by exact HJ.out.go HSTL (by kernel_rfl) 0 HF.out (by decide) (by decide) HP.out (Below.refl _ _) (.agg #[.slice A4 n4 p4, .bool false]) (HRI.out.below HBX.out))
    · refine opAt rfl ?_
      intro l us wx hJ hp hl K hK
      have HJ := Lib.hid hJ; have HP := Lib.hid hp; have HLI := Lib.hid hl; have HF := Lib.hid (hJ.live hl (by decide)); have HBX := Lib.hid (hJ.below HF.out); have HK := hK
      clear hJ hp hl hK
      simp only [At, List.foldl_cons, List.foldl_nil, List.setIfInBounds_toArray, List.set_cons_zero, List.set_cons_succ] at HK
      have HK := Lib.hid HK
      have r0 := keep_cell HBX.out r0
      have r1 := keep_cell HBX.out r1
      simp only [At, List.foldl_cons, List.foldl_nil, List.setIfInBounds_toArray, List.set_cons_zero, List.set_cons_succ]
      refine ⟨?_⟩
      go_simp
      exact HK.out (upd us 24 (.agg #[.slice A4 n4 p4, .bool false])) wx (by exact HJ.out.go HSTL (by kernel_rfl) 1 HF.out (by decide) (by decide) HP.out (Below.refl _ _) (.agg #[.slice A4 n4 p4, .bool false]) (HRI.out.below HBX.out))
    · refine opAt rfl ?_
      intro l us wx hJ hp hl K hK
      have HJ := Lib.hid hJ; have HP := Lib.hid hp; have HLI := Lib.hid hl; have HF := Lib.hid (hJ.live hl (by decide)); have HBX := Lib.hid (hJ.below HF.out); have HK := hK
      clear hJ hp hl hK
      simp only [At, List.foldl_cons, List.foldl_nil, List.setIfInBounds_toArray, List.set_cons_zero, List.set_cons_succ] at HK
      have HK := Lib.hid HK
      have h23 : Ri wx (us 23) ((R : Int)) := HJ.out.val HF.out 0 (by decide) (HP.out 0 (by kernel_rfl))
      obtain ⟨A23, n23, q23, b23, e23⟩ := h23.form
      have h24 : Ri wx (us 24) ((R : Int)) := HJ.out.val HF.out 1 (by decide) (HP.out 1 (by kernel_rfl))
      obtain ⟨A24, n24, q24, b24, e24⟩ := h24.form
      simp only [At, List.foldl_cons, List.foldl_nil, List.setIfInBounds_toArray, List.set_cons_zero, List.set_cons_succ]
      refine ⟨?_⟩
      go_simp
      go_wp2_with ((go_at_call 124; (with_reducible refine (HPR.out _ _ _ (by rw [e23] at h23; exact h23) (by rw [e24] at h24; exact h24)).mono ?_); rintro en w9 ⟨v9, rfl, hv9, hbz⟩; have HV := Lib.hid hv9; clear hv9; have HC := Lib.hid hbz; clear hbz))
      exact HK.out (upd (upd (upd us 23 (.agg #[.slice A23 n23 q23, .bool b23])) 24 (.agg #[.slice A24 n24 q24, .bool b24])) 25 (v9)) w9 (by rw [upd_self e23, upd_self e24]; exact HJ.out.go HSTL (by kernel_rfl) 2 HF.out (by decide) (by decide) HP.out HC.out (v9) (HV.out))
    · refine opAt rfl ?_
      intro l us wx hJ hp hl K hK
      have HJ := Lib.hid hJ; have HP := Lib.hid hp; have HLI := Lib.hid hl; have HF := Lib.hid (hJ.live hl (by decide)); have HBX := Lib.hid (hJ.below HF.out); have HK := hK
      clear hJ hp hl hK
      simp only [At, List.foldl_cons, List.foldl_nil, List.setIfInBounds_toArray, List.set_cons_zero, List.set_cons_succ] at HK
      have HK := Lib.hid HK
      have m0 := keep_cell HBX.out m0
      have m1 := keep_cell HBX.out m1
      simp only [At, List.foldl_cons, List.foldl_nil, List.setIfInBounds_toArray, List.set_cons_zero, List.set_cons_succ]
      refine ⟨?_⟩
      go_simp
      exact HK.out (upd us 26 (.agg #[.slice A3 n3 p3, .bool b3])) wx (by exact HJ.out.go HSTL (by kernel_rfl) 3 HF.out (by decide) (by decide) HP.out (Below.refl _ _) (.agg #[.slice A3 n3 p3, .bool b3]) (HNI.out.below HBX.out))
    · refine opAt rfl ?_
      intro l us wx hJ hp hl K hK
      have HJ := Lib.hid hJ; have HP := Lib.hid hp; have HLI := Lib.hid hl; have HF := Lib.hid (hJ.live hl (by decide)); have HBX := Lib.hid (hJ.below HF.out); have HK := hK
      clear hJ hp hl hK
      simp only [At, List.foldl_cons, List.foldl_nil, List.setIfInBounds_toArray, List.set_cons_zero, List.set_cons_succ] at HK
      have HK := Lib.hid HK
      have h25 : Ri wx (us 25) ((R : Int) * (R : Int)) := HJ.out.val HF.out 2 (by decide) (HP.out 2 (by kernel_rfl))
      obtain ⟨A25, n25, q25, b25, e25⟩ := h25.form
      have h26 : Ri wx (us 26) ((N : Int)) := HJ.out.val HF.out 3 (by decide) (HP.out 3 (by kernel_rfl))
      obtain ⟨A26, n26, q26, b26, e26⟩ := h26.form
      simp only [At, List.foldl_cons, List.foldl_nil, List.setIfInBounds_toArray, List.set_cons_zero, List.set_cons_succ]
      refine ⟨?_⟩
      go_simp
      go_wp2_with ((go_at_call 117; (with_reducible refine (HOR.out _ _ _ (by rw [e25] at h25; exact h25) (by rw [e26] at h26; exact h26)).mono ?_); rintro en w9 ⟨rfl, hbz⟩; have HC := Lib.hid hbz; clear hbz))
      exact HK.out (upd (upd (upd us 25 (.agg #[.slice A25 n25 q25, .bool b25])) 26 (.agg #[.slice A26 n26 q26, .bool b26])) 27 (.int .i64 sg)) w9 (by rw [upd_self e25, upd_self e26]; exact HJ.out.go HSTL (by kernel_rfl) 4 HF.out (by decide) (by decide) HP.out HC.out (.int .i64 sg) (rfl))
    · refine opAt rfl ?_
      intro l us wx hJ hp hl K hK
      have HJ := Lib.hid hJ; have HP := Lib.hid hp; have HLI := Lib.hid hl; have HF := Lib.hid (hJ.live hl (by decide)); have HBX := Lib.hid (hJ.below HF.out); have HK := hK
      clear hJ hp hl hK
      simp only [At, List.foldl_cons, List.foldl_nil, List.setIfInBounds_toArray, List.set_cons_zero, List.set_cons_succ] at HK
      have HK := Lib.hid HK
      have h27 : us 27 = .int .i64 sg := HJ.out.val HF.out 4 (by decide) (HP.out 4 (by kernel_rfl))
      have hcb9 := HCB.out
      simp only [At, List.foldl_cons, List.foldl_nil, List.setIfInBounds_toArray, List.set_cons_zero, List.set_cons_succ]
      refine ⟨?_⟩
      go_simp
      exact HK.out (upd (upd us 27 (.int .i64 sg)) 28 (.bool cb)) wx (by rw [upd_self h27]; exact HJ.out.go HSTL (by kernel_rfl) 5 HF.out (by decide) (by decide) HP.out (Below.refl _ _) (.bool cb) (rfl))
    · refine opAt rfl ?_
      intro l us wx hJ hp hl K hK
      have HJ := Lib.hid hJ; have HP := Lib.hid hp; have HLI := Lib.hid hl; have HF := Lib.hid (hJ.live hl (by decide)); have HBX := Lib.hid (hJ.below HF.out); have HK := hK
      clear hJ hp hl hK
      simp only [At, List.foldl_cons, List.foldl_nil, List.setIfInBounds_toArray, List.set_cons_zero, List.set_cons_succ] at HK
      have HK := Lib.hid HK
      have h28 : us 28 = .bool cb := HJ.out.val HF.out 5 (by decide) (HP.out 5 (by kernel_rfl))
      simp only [At, List.foldl_cons, List.foldl_nil, List.setIfInBounds_toArray, List.set_cons_zero, List.set_cons_succ]
      refine ⟨?_⟩
      go_simp
      exact HK.out (upd (upd us 28 (.bool cb)) 6 (.bool cb)) wx (by rw [upd_self h28]; exact HJ.out.go HSTL (by kernel_rfl) 6 HF.out (by decide) (by decide) HP.out (Below.refl _ _) (.bool cb) (rfl))
  obtain ⟨rfl, HBC⟩ := hcut
  obtain ⟨T, hT⟩ : ∃ T, wc = T := ⟨_, rfl⟩
  rw [hT] at HBC ⊢
  have r0 := keep_cell HBC.out r0; have r1 := keep_cell HBC.out r1; have c2 := keep_cell HBC.out c2
  have HX1 := Lib.hid (heapB HBC.out HX1.out)
  have HRI := Lib.hid (HRI.out.below HBC.out)
  have HB := Lib.hid (belowT HBU.out HBC.out)
  have hw1 : IntKind.i64.wrap (e - (kk : Int)) = e - (kk : Int) := IntWalk.i64_in _ (by omega)
  have hw2 : IntKind.i64.wrap E2 = E2 := IntWalk.i64_in _ (by omega)
  have hw3 : IntKind.i64.wrap (E2 - 1) = E2 - 1 := IntWalk.i64_in _ (by omega)
  clear hT HBC HBU HWU
  go_upto_region 7 with fail
  go_cut [38] from 29 to 38 (fun _ wx => ∃ A n c b, wx.cell? ⟨w.heap.size + 1, 0, none⟩ = some (.slice A n c) ∧ wx.cell? ⟨w.heap.size + 1, 1, none⟩ = some (.bool b) ∧ wx.cell? ⟨w.heap.size + 1, 2, none⟩ = some (.int .i64 (E2 - 1)) ∧ Hid (Ri wx (.agg #[.slice A n c, .bool b]) (10 * (R : Int) + addS (R : Int) cb)) ∧ Hid (Below w.heap.size w wx))
  case first =>
    have HSTL : StableL [(fun w v => Ri w v ((R : Int))), (fun _ v => v = .bool cb), (fun w v => Ri w v (10 * (R : Int) + addS (R : Int) cb)), (fun _ v => v = .pointer (some ⟨w.heap.size, 2, none⟩)), (fun _ v => v = .int .i64 e), (fun _ v => v = .int .i64 (kk : Int)), (fun _ v => v = .int .i64 (e - (kk : Int))), (fun _ v => v = .int .i64 E2), (fun _ v => v = .int .i64 (E2 - 1)), (fun w v => Dc w v (10 * (R : Int) + addS (R : Int) cb) (E2 - 1)), (fun _ _ => True)] := ⟨(fun _ _ _ hb h => Ri.below h hb), (fun _ _ _ _ h => h), (fun _ _ _ hb h => Ri.below h hb), (fun _ _ _ _ h => h), (fun _ _ _ _ h => h), (fun _ _ _ _ h => h), (fun _ _ _ _ h => h), (fun _ _ _ _ h => h), (fun _ _ _ _ h => h), (fun _ _ _ hb h => Dc.below h hb), (fun _ _ _ _ h => h), trivial⟩
    refine wp_region_p [29, 30, 31, 32, 33, 34, 35, 36, 37, 38] [29, 30, 31, 32, 33, 34, 35, 36, 37, 38, 1000] [(fun w v => Ri w v ((R : Int))), (fun _ v => v = .bool cb), (fun w v => Ri w v (10 * (R : Int) + addS (R : Int) cb)), (fun _ v => v = .pointer (some ⟨w.heap.size, 2, none⟩)), (fun _ v => v = .int .i64 e), (fun _ v => v = .int .i64 (kk : Int)), (fun _ v => v = .int .i64 (e - (kk : Int))), (fun _ v => v = .int .i64 E2), (fun _ v => v = .int .i64 (E2 - 1)), (fun w v => Dc w v (10 * (R : Int) + addS (R : Int) cb) (E2 - 1)), (fun _ _ => True)] 10 (fun _ wx => ∃ A n c b, wx.cell? ⟨w.heap.size + 1, 0, none⟩ = some (.slice A n c) ∧ wx.cell? ⟨w.heap.size + 1, 1, none⟩ = some (.bool b) ∧ wx.cell? ⟨w.heap.size + 1, 2, none⟩ = some (.int .i64 (E2 - 1)) ∧ Hid (Ri wx (.agg #[.slice A n c, .bool b]) (10 * (R : Int) + addS (R : Int) cb)) ∧ Hid (Below w.heap.size w wx)) 11 rfl (by kernel_rfl) (by kernel_rfl) ?_ ⟨?_, ?_, ?_, ?_, ?_, ?_, ?_, ?_, ?_, ?_, ?_, trivial⟩
    · intro l us wx hl hJ
      have HF := Lib.hid (hJ.ended hl (by decide))
      clear hl hJ
      simp only [At, List.foldl_cons, List.foldl_nil, List.setIfInBounds_toArray, List.set_cons_zero, List.set_cons_succ]
      go_wp2_with fail
      go_meet
      exact HF.out
    · refine opAt rfl ?_
      intro l us wx hJ hp hl K hK
      have HJ := Lib.hid hJ; have HP := Lib.hid hp; have HLI := Lib.hid hl; have HF := Lib.hid (hJ.live hl (by decide)); have HBX := Lib.hid (hJ.below HF.out); have HK := hK
      clear hJ hp hl hK
      simp only [At, List.foldl_cons, List.foldl_nil, List.setIfInBounds_toArray, List.set_cons_zero, List.set_cons_succ] at HK
      have HK := Lib.hid HK
      have r0 := keep_cell HBX.out r0
      have r1 := keep_cell HBX.out r1
      simp only [At, List.foldl_cons, List.foldl_nil, List.setIfInBounds_toArray, List.set_cons_zero, List.set_cons_succ]
      refine ⟨?_⟩
      go_simp
      exact HK.out (upd us 29 (.agg #[.slice A4 n4 p4, .bool false])) wx (by exact HJ.out.go HSTL (by kernel_rfl) 0 HF.out (by decide) (by decide) HP.out (Below.refl _ _) (.agg #[.slice A4 n4 p4, .bool false]) (HRI.out.below HBX.out))
    · refine opAt rfl ?_
      intro l us wx hJ hp hl K hK
      have HJ := Lib.hid hJ; have HP := Lib.hid hp; have HLI := Lib.hid hl; have HF := Lib.hid (hJ.live hl (by decide)); have HBX := Lib.hid (hJ.below HF.out); have HK := hK
      clear hJ hp hl hK
      simp only [At, List.foldl_cons, List.foldl_nil, List.setIfInBounds_toArray, List.set_cons_zero, List.set_cons_succ] at HK
      have HK := Lib.hid HK
      simp only [At, List.foldl_cons, List.foldl_nil, List.setIfInBounds_toArray, List.set_cons_zero, List.set_cons_succ]
      refine ⟨?_⟩
      go_simp
      exact HK.out (upd us 30 (.bool cb)) wx (by exact HJ.out.go HSTL (by kernel_rfl) 1 HF.out (by decide) (by decide) HP.out (Below.refl _ _) (.bool cb) (rfl))
    · refine opAt rfl ?_
      intro l us wx hJ hp hl K hK
      have HJ := Lib.hid hJ; have HP := Lib.hid hp; have HLI := Lib.hid hl; have HF := Lib.hid (hJ.live hl (by decide)); have HBX := Lib.hid (hJ.below HF.out); have HK := hK
      clear hJ hp hl hK
      simp only [At, List.foldl_cons, List.foldl_nil, List.setIfInBounds_toArray, List.set_cons_zero, List.set_cons_succ] at HK
      have HK := Lib.hid HK
      have h29 : Ri wx (us 29) ((R : Int)) := HJ.out.val HF.out 0 (by decide) (HP.out 0 (by kernel_rfl))
      obtain ⟨A29, n29, q29, b29, e29⟩ := h29.form
      have h30 : us 30 = .bool cb := HJ.out.val HF.out 1 (by decide) (HP.out 1 (by kernel_rfl))
      simp only [At, List.foldl_cons, List.foldl_nil, List.setIfInBounds_toArray, List.set_cons_zero, List.set_cons_succ]
      refine ⟨?_⟩
      go_simp
      go_wp2_with ((go_at_call 127; (with_reducible refine (HMO.out _ _ (by rw [e29] at h29; exact h29)).mono ?_); rintro en w9 ⟨v9, rfl, hv9, hbz⟩; have HV := Lib.hid hv9; clear hv9; have HC := Lib.hid hbz; clear hbz))
      exact HK.out (upd (upd (upd us 29 (.agg #[.slice A29 n29 q29, .bool b29])) 30 (.bool cb)) 31 (v9)) w9 (by rw [upd_self e29, upd_self h30]; exact HJ.out.go HSTL (by kernel_rfl) 2 HF.out (by decide) (by decide) HP.out HC.out (v9) (HV.out))
    · refine opAt rfl ?_
      intro l us wx hJ hp hl K hK
      have HJ := Lib.hid hJ; have HP := Lib.hid hp; have HLI := Lib.hid hl; have HF := Lib.hid (hJ.live hl (by decide)); have HBX := Lib.hid (hJ.below HF.out); have HK := hK
      clear hJ hp hl hK
      simp only [At, List.foldl_cons, List.foldl_nil, List.setIfInBounds_toArray, List.set_cons_zero, List.set_cons_succ] at HK
      have HK := Lib.hid HK
      simp only [At, List.foldl_cons, List.foldl_nil, List.setIfInBounds_toArray, List.set_cons_zero, List.set_cons_succ]
      refine ⟨?_⟩
      go_simp
      exact HK.out (upd us 32 (.pointer (some ⟨w.heap.size, 2, none⟩))) wx (by exact HJ.out.go HSTL (by kernel_rfl) 3 HF.out (by decide) (by decide) HP.out (Below.refl _ _) (.pointer (some ⟨w.heap.size, 2, none⟩)) (rfl))
    · refine opAt rfl ?_
      intro l us wx hJ hp hl K hK
      have HJ := Lib.hid hJ; have HP := Lib.hid hp; have HLI := Lib.hid hl; have HF := Lib.hid (hJ.live hl (by decide)); have HBX := Lib.hid (hJ.below HF.out); have HK := hK
      clear hJ hp hl hK
      simp only [At, List.foldl_cons, List.foldl_nil, List.setIfInBounds_toArray, List.set_cons_zero, List.set_cons_succ] at HK
      have HK := Lib.hid HK
      have h32 : us 32 = .pointer (some ⟨w.heap.size, 2, none⟩) := HJ.out.val HF.out 3 (by decide) (HP.out 3 (by kernel_rfl))
      have c2 := keep_cell HBX.out c2
      simp only [At, List.foldl_cons, List.foldl_nil, List.setIfInBounds_toArray, List.set_cons_zero, List.set_cons_succ]
      refine ⟨?_⟩
      go_simp
      exact HK.out (upd (upd us 32 (.pointer (some ⟨w.heap.size, 2, none⟩))) 33 (.int .i64 e)) wx (by rw [upd_self h32]; exact HJ.out.go HSTL (by kernel_rfl) 4 HF.out (by decide) (by decide) HP.out (Below.refl _ _) (.int .i64 e) (rfl))
    · refine opAt rfl ?_
      intro l us wx hJ hp hl K hK
      have HJ := Lib.hid hJ; have HP := Lib.hid hp; have HLI := Lib.hid hl; have HF := Lib.hid (hJ.live hl (by decide)); have HBX := Lib.hid (hJ.below HF.out); have HK := hK
      clear hJ hp hl hK
      simp only [At, List.foldl_cons, List.foldl_nil, List.setIfInBounds_toArray, List.set_cons_zero, List.set_cons_succ] at HK
      have HK := Lib.hid HK
      simp only [At, List.foldl_cons, List.foldl_nil, List.setIfInBounds_toArray, List.set_cons_zero, List.set_cons_succ]
      refine ⟨?_⟩
      go_simp
      exact HK.out (upd us 34 (.int .i64 (kk : Int))) wx (by exact HJ.out.go HSTL (by kernel_rfl) 5 HF.out (by decide) (by decide) HP.out (Below.refl _ _) (.int .i64 (kk : Int)) (rfl))
    · refine opAt rfl ?_
      intro l us wx hJ hp hl K hK
      have HJ := Lib.hid hJ; have HP := Lib.hid hp; have HLI := Lib.hid hl; have HF := Lib.hid (hJ.live hl (by decide)); have HBX := Lib.hid (hJ.below HF.out); have HK := hK
      clear hJ hp hl hK
      simp only [At, List.foldl_cons, List.foldl_nil, List.setIfInBounds_toArray, List.set_cons_zero, List.set_cons_succ] at HK
      have HK := Lib.hid HK
      have h33 : us 33 = .int .i64 e := HJ.out.val HF.out 4 (by decide) (HP.out 4 (by kernel_rfl))
      have h34 : us 34 = .int .i64 (kk : Int) := HJ.out.val HF.out 5 (by decide) (HP.out 5 (by kernel_rfl))
      simp only [At, List.foldl_cons, List.foldl_nil, List.setIfInBounds_toArray, List.set_cons_zero, List.set_cons_succ]
      refine ⟨?_⟩
      go_simp
      exact HK.out (upd (upd (upd us 33 (.int .i64 e)) 34 (.int .i64 (kk : Int))) 35 (.int .i64 (e - (kk : Int)))) wx (by rw [upd_self h33, upd_self h34]; exact HJ.out.go HSTL (by kernel_rfl) 6 HF.out (by decide) (by decide) HP.out (Below.refl _ _) (.int .i64 (e - (kk : Int))) (rfl))
    · refine opAt rfl ?_
      intro l us wx hJ hp hl K hK
      have HJ := Lib.hid hJ; have HP := Lib.hid hp; have HLI := Lib.hid hl; have HF := Lib.hid (hJ.live hl (by decide)); have HBX := Lib.hid (hJ.below HF.out); have HK := hK
      clear hJ hp hl hK
      simp only [At, List.foldl_cons, List.foldl_nil, List.setIfInBounds_toArray, List.set_cons_zero, List.set_cons_succ] at HK
      have HK := Lib.hid HK
      have h35 : us 35 = .int .i64 (e - (kk : Int)) := HJ.out.val HF.out 6 (by decide) (HP.out 6 (by kernel_rfl))
      have hE := hE2
      simp only [At, List.foldl_cons, List.foldl_nil, List.setIfInBounds_toArray, List.set_cons_zero, List.set_cons_succ]
      refine ⟨?_⟩
      go_simp
      exact HK.out (upd (upd us 35 (.int .i64 (e - (kk : Int)))) 36 (.int .i64 E2)) wx (by rw [upd_self h35]; exact HJ.out.go HSTL (by kernel_rfl) 7 HF.out (by decide) (by decide) HP.out (Below.refl _ _) (.int .i64 E2) (rfl))
    · refine opAt rfl ?_
      intro l us wx hJ hp hl K hK
      have HJ := Lib.hid hJ; have HP := Lib.hid hp; have HLI := Lib.hid hl; have HF := Lib.hid (hJ.live hl (by decide)); have HBX := Lib.hid (hJ.below HF.out); have HK := hK
      clear hJ hp hl hK
      simp only [At, List.foldl_cons, List.foldl_nil, List.setIfInBounds_toArray, List.set_cons_zero, List.set_cons_succ] at HK
      have HK := Lib.hid HK
      have h36 : us 36 = .int .i64 E2 := HJ.out.val HF.out 7 (by decide) (HP.out 7 (by kernel_rfl))
      simp only [At, List.foldl_cons, List.foldl_nil, List.setIfInBounds_toArray, List.set_cons_zero, List.set_cons_succ]
      refine ⟨?_⟩
      go_simp
      exact HK.out (upd (upd us 36 (.int .i64 E2)) 37 (.int .i64 (E2 - 1))) wx (by rw [upd_self h36]; exact HJ.out.go HSTL (by kernel_rfl) 8 HF.out (by decide) (by decide) HP.out (Below.refl _ _) (.int .i64 (E2 - 1)) (rfl))
    · refine opAt rfl ?_
      intro l us wx hJ hp hl K hK
      have HJ := Lib.hid hJ; have HP := Lib.hid hp; have HLI := Lib.hid hl; have HF := Lib.hid (hJ.live hl (by decide)); have HBX := Lib.hid (hJ.below HF.out); have HK := hK
      clear hJ hp hl hK
      simp only [At, List.foldl_cons, List.foldl_nil, List.setIfInBounds_toArray, List.set_cons_zero, List.set_cons_succ] at HK
      have HK := Lib.hid HK
      have h31 : Ri wx (us 31) (10 * (R : Int) + addS (R : Int) cb) := HJ.out.val HF.out 2 (by decide) (HP.out 2 (by kernel_rfl))
      obtain ⟨A31, n31, q31, b31, e31⟩ := h31.form
      have h37 : us 37 = .int .i64 (E2 - 1) := HJ.out.val HF.out 8 (by decide) (HP.out 8 (by kernel_rfl))
      simp only [At, List.foldl_cons, List.foldl_nil, List.setIfInBounds_toArray, List.set_cons_zero, List.set_cons_succ]
      refine ⟨?_⟩
      go_simp
      exact HK.out (upd (upd (upd us 31 (.agg #[.slice A31 n31 q31, .bool b31])) 37 (.int .i64 (E2 - 1))) 38 (.agg #[.slice A31 n31 q31, .bool b31, .int .i64 (E2 - 1)])) wx (by rw [upd_self e31, upd_self h37]; exact HJ.out.go HSTL (by kernel_rfl) 9 HF.out (by decide) (by decide) HP.out (Below.refl _ _) (.agg #[.slice A31 n31 q31, .bool b31, .int .i64 (E2 - 1)]) (⟨A31, n31, q31, b31, rfl, by rw [← e31]; exact h31⟩))
    · refine opAt rfl ?_
      intro l us wx hJ hp hl K hK
      have HJ := Lib.hid hJ; have HP := Lib.hid hp; have HLI := Lib.hid hl; have HF := Lib.hid (hJ.live hl (by decide)); have HBX := Lib.hid (hJ.below HF.out); have HK := hK
      clear hJ hp hl hK
      simp only [At, List.foldl_cons, List.foldl_nil, List.setIfInBounds_toArray, List.set_cons_zero, List.set_cons_succ] at HK
      have HK := Lib.hid HK
      have h38 : Dc wx (us 38) (10 * (R : Int) + addS (R : Int) cb) (E2 - 1) := HJ.out.val HF.out 9 (by decide) (HP.out 9 (by kernel_rfl))
      obtain ⟨A38, n38, q38, b38, e38, hr38⟩ := h38
      have hb9 := heapB HBX.out HX1.out
      obtain ⟨d0, d1, d2⟩ := three_cells hb9
      have f0 := free_of_heap hb9 0; have f1 := free_of_heap hb9 1; have f2 := free_of_heap hb9 2
      obtain ⟨F, hF, r0, r1, r2, hri, hfb⟩ := dc_put (e := E2 - 1) hr38 hb9
      have HR9 := Lib.hid hri; have HFB := Lib.hid (hfb w.heap.size w (by omega) (belowT HB.out HBX.out))
      clear hri hfb hr38
      simp only [At, List.foldl_cons, List.foldl_nil, List.setIfInBounds_toArray, List.set_cons_zero, List.set_cons_succ]
      refine ⟨?_⟩
      go_simp
      (try rw [hF])
      exact HK.out (upd us 38 (.agg #[.slice A38 n38 q38, .bool b38, .int .i64 (E2 - 1)])) _ (by rw [upd_self e38]; exact HJ.out.store (by kernel_rfl) HLI.out HP.out (⟨A38, n38, q38, b38, r0, r1, r2, HR9.out, HFB.out⟩))
  case rest =>
    obtain ⟨A, n, c, b, r0, r1, r2, HR, HB⟩ := hcut
    go_wp2_with fail
    refine bodyPost_ret (v := .agg #[.slice A n c, .bool b, .int .i64 (E2 - 1)]) (by simp [results, Tryz.results55, go_sem, r0, r1, r2]) rfl ?_
    exact ⟨_, rfl, ⟨A, n, c, b, rfl, HR.out⟩, HB.out⟩
end Go.Proofs.YtekbfommnmikbaaGreatDoor
/- Plain laws: what Div and Root round is what the reference rounds. -/
namespace Go.Proofs.YtekbfommnmikbaaGreatDoor
set_option linter.unusedVariables false
set_option linter.unusedSimpArgs false

theorem addS_abs (q : Int) (cut : Bool) : (10 * q + addS q cut).natAbs = 10 * q.natAbs + (if cut then 1 else 0) := by
  unfold addS
  cases cut
  · simp only [Bool.false_eq_true, if_false]; omega
  · simp only [if_true]
    split <;> omega
theorem addS_neg (q : Int) (cut : Bool) : 10 * q + addS q cut < 0 ↔ q < 0 := by
  unfold addS
  cases cut
  · simp only [Bool.false_eq_true, if_false]; omega
  · simp only [if_true]
    split <;> omega
theorem lastMore_succ (item : Nat → Int × Bool) (k : Nat) : lastMore item (k + 1) = (item k).2 := rfl
theorem qitem_more (m n k : Nat) : (qitem m n k).2 = (((qm m n k % n : Nat) : Int) != 0) := rfl
theorem withMore_true (ds : List Int) : withMore ds true = ds ++ [1] := rfl
theorem withMore_false (ds : List Int) : withMore ds false = ds := rfl
theorem quo_sticky {M N T d A r0 : Nat} {E : Int} (hN : 0 < N) (hA : M * T / N = A) (hr0 : M * T % N = r0) (hAb : 1000000000000 ≤ A) (hT : T = 10 ^ d) (hd : 0 < d) :
    rnd (10 * (M * (T * T) / N) + (if M * (T * T) % N = 0 then 0 else 1)) E = rnd (10 * A + (if r0 = 0 then 0 else 1)) (E + d) := by
  have hdm := Nat.div_add_mod (M * T) N
  have hrl : r0 < N := by rw [← hr0]; exact Nat.mod_lt _ hN
  rw [hA, hr0] at hdm
  have hTp : 0 < T := by rw [hT]; exact Nat.pow_pos (by decide)
  have e26 : M * (T * T) = r0 * T + N * (A * T) := by
    rw [← Nat.mul_assoc, ← hdm]; grind
  have eq1 : M * (T * T) / N = A * T + r0 * T / N := by rw [e26, Nat.add_mul_div_left _ _ hN, Nat.add_comm]
  have eq2 : M * (T * T) % N = r0 * T % N := by rw [e26, Nat.add_mul_mod_self_left]
  have hB : r0 * T / N < T := by
    rw [Nat.div_lt_iff_lt_mul hN, Nat.mul_comm]
    exact Nat.mul_lt_mul_of_pos_left hrl hTp
  have hB' : r0 * T / N < 10 ^ d := by rw [← hT]; exact hB
  have hst := sticky2 (A := A) (B := r0 * T / N) (d := d) (decide (r0 * T % N ≠ 0)) hAb hB' hd E
  rw [← hT] at hst
  have hs1 : (if decide (r0 * T % N ≠ 0) = true then (1 : Nat) else 0) = if r0 * T % N = 0 then 0 else 1 := by
    by_cases h : r0 * T % N = 0
    · rw [if_pos h, if_neg (by simp [h])]
    · rw [if_neg h, if_pos (by simp [h])]
  have hs2 : (r0 * T / N = 0 ∧ decide (r0 * T % N ≠ 0) = false) ↔ r0 = 0 := by
    have hd2 := Nat.div_add_mod (r0 * T) N
    constructor
    · rintro ⟨h1, h2⟩
      have h3 : r0 * T % N = 0 := by simpa using h2
      rw [h1, h3, Nat.mul_zero] at hd2
      rcases Nat.eq_zero_or_pos r0 with h | h
      · exact h
      · have := Nat.mul_pos h hTp; omega
    · intro h
      subst h
      simp
  rw [hs1] at hst
  rw [eq1, eq2, hst]
  by_cases h0 : r0 = 0
  · rw [if_pos (hs2.2 h0), if_pos h0]
  · rw [if_neg (fun x => h0 (hs2.1 x)), if_neg h0]
theorem quoV_eq {xm xe ym ye : Int} {T : Nat} (hT : T = 10 ^ 13) (hT2 : T = 10000000000000) (hM : 100000000000 ≤ xm.natAbs) (hN : 0 < ym.natAbs) (hN2 : ym.natAbs < 1000000000000) :
    quoV xm xe ym ye = rnd (10 * (xm.natAbs * (T * T) / ym.natAbs) + (if xm.natAbs * (T * T) % ym.natAbs = 0 then 0 else 1)) (xe - 26 - ye - 1) := by
  unfold quoV
  obtain ⟨M, hMM⟩ : ∃ M, xm.natAbs = M := ⟨_, rfl⟩
  obtain ⟨N, hNN⟩ : ∃ N, ym.natAbs = N := ⟨_, rfl⟩
  rw [hMM] at hM ⊢
  rw [hNN] at hN hN2 ⊢
  obtain ⟨f1, f2⟩ := firsts_q (m := M) hN 13
  rw [← hT] at f1 f2
  obtain ⟨A, hA⟩ : ∃ A, M * T / N = A := ⟨_, rfl⟩
  obtain ⟨r0, hr0⟩ : ∃ r0, M * T % N = r0 := ⟨_, rfl⟩
  rw [hA] at f1
  rw [hr0] at f2
  have hAb : 1000000000000 ≤ A := by
    rw [← hA, Nat.le_div_iff_mul_le hN]
    have h1 := Nat.mul_le_mul_right T hM
    rw [hT2] at h1 ⊢
    omega
  have hst := quo_sticky (E := xe - 26 - ye - 1) hN hA hr0 hAb hT (by decide)
  rw [hst, show (14 : Nat) = 13 + 1 from rfl, lastMore_succ, qitem_more, f2]
  have hE : xe - 26 - ye - 1 + ((13 : Nat) : Int) = xe - ye - 13 - 1 := by omega
  rw [hE]
  by_cases h0 : r0 = 0
  · subst h0
    rw [if_pos rfl, show (((0 : Nat) : Int) != 0) = false from rfl, withMore_false, f1, Int.toNat_natCast, Nat.add_zero]
    have := rnd_mul A 1 (xe - ye - 13)
    rw [Nat.pow_one, Nat.mul_comm] at this
    exact this.symm
  · have hb : (((r0 : Nat) : Int) != 0) = true := by rw [bne_iff_ne]; omega
    rw [if_neg h0, hb, withMore_true, vd_snoc, f1]
    have : (10 * (A : Int) + 1).toNat = 10 * A + 1 := by omega
    rw [this]
    rfl
theorem nd12 {m : Int} {e : Int} (h : RV m.natAbs e) (h0 : m ≠ 0) : (dg 10 m.natAbs).length = 12 := by
  rcases RV_nd h with h1 | h1
  · have := nd_pos (show 0 < m.natAbs by omega); omega
  · exact h1
theorem div_form {xm xe ym ye : Int} (hx : RV xm.natAbs xe) (hy : RV ym.natAbs ye) (h0 : ym ≠ 0) : divX xm xe ym ye = resS (rndS (10 * (xm * 10 ^ (14 + (dg 10 ym.natAbs).length)).tdiv ym + addS ((xm * 10 ^ (14 + (dg 10 ym.natAbs).length)).tdiv ym) (decide ((xm * 10 ^ (14 + (dg 10 ym.natAbs).length)).tmod ym ≠ 0))) (xe - (14 + (dg 10 ym.natAbs).length : Nat) - ye - 1)) := by
  obtain ⟨T, hT⟩ : ∃ T : Nat, T = 10 ^ 13 := ⟨_, rfl⟩
  have hT2 : T = 10000000000000 := by rw [hT]
  have hTi : (10 : Int) ^ (14 + 12) = ((T * T : Nat) : Int) := by rw [hT2]; decide
  unfold divX doneR
  rw [if_pos ⟨hx, hy⟩, if_neg h0, if_pos rfl, nd12 hy h0, hTi]
  show quoR xm xe ym ye = _
  unfold quoR
  rw [resR_sgo]
  refine congrArg resS ?_
  unfold rndS
  obtain ⟨q, hq⟩ : ∃ q, (xm * ((T * T : Nat) : Int)).tdiv ym = q := ⟨_, rfl⟩
  obtain ⟨r, hr⟩ : ∃ r, (xm * ((T * T : Nat) : Int)).tmod ym = r := ⟨_, rfl⟩
  have hqa : q.natAbs = xm.natAbs * (T * T) / ym.natAbs := by rw [← hq, Int.natAbs_tdiv, Int.natAbs_mul, Int.natAbs_natCast]; rfl
  have hra : r.natAbs = xm.natAbs * (T * T) % ym.natAbs := by rw [← hr, Int.natAbs_tmod, Int.natAbs_mul, Int.natAbs_natCast]
  rw [hq, hr, addS_abs]
  have hN : 0 < ym.natAbs := by omega
  have hE9 : (xe - ((14 + 12 : Nat) : Int) - ye - 1) = xe - 26 - ye - 1 := rfl
  rw [hE9]
  by_cases hx0 : xm = 0
  · subst hx0
    have hq0 : q = 0 := by rw [Int.natAbs_zero, Nat.zero_mul, Nat.zero_div] at hqa; omega
    have hr0 : r = 0 := by rw [Int.natAbs_zero, Nat.zero_mul, Nat.zero_mod] at hra; omega
    subst hq0; subst hr0
    have hxe : xe = 0 := by unfold RV at hx; omega
    have e1 : (if decide ((0 : Int) ≠ 0) = true then (1 : Nat) else 0) = 0 := rfl
    rw [e1, show 10 * (0 : Int).natAbs + 0 = 0 from rfl, rnd_zero]
    have hz : quoV 0 xe ym ye = some (0, 0) := by
      unfold quoV
      rw [Int.natAbs_zero]
      obtain ⟨f1, f2⟩ := firsts_q (m := 0) hN 13
      rw [Nat.zero_mul, Nat.zero_div] at f1
      rw [Nat.zero_mul, Nat.zero_mod] at f2
      rw [show (14 : Nat) = 13 + 1 from rfl, lastMore_succ, qitem_more, f2, show (((0 : Nat) : Int) != 0) = false from rfl, withMore_false, f1]
      exact rnd_zero _
    rw [hz]
    unfold sgo sgm
    simp
  · have hM : 100000000000 ≤ xm.natAbs := by unfold RV at hx; omega
    have hN2 : ym.natAbs < 1000000000000 := by unfold RV at hy; omega
    rw [quoV_eq hT hT2 hM hN hN2, hqa]
    have e1 : (if decide (r ≠ 0) = true then (1 : Nat) else 0) = if xm.natAbs * (T * T) % ym.natAbs = 0 then 0 else 1 := by
      rw [← hra]
      by_cases h : r = 0
      · rw [if_neg (by simp [h]), if_pos (by omega)]
      · rw [if_pos (by simp [h]), if_neg (by omega)]
    rw [e1]
    congr 1
    have hqn : q ≠ 0 := by
      intro h
      rw [h] at hqa
      have h1 : 1 ≤ xm.natAbs * (T * T) / ym.natAbs := by
        rw [Nat.le_div_iff_mul_le hN, Nat.one_mul]
        have h2 := Nat.mul_le_mul_right (T * T) hM
        rw [hT2] at h2 ⊢
        omega
      omega
    have hp : (0 : Int) < ((T * T : Nat) : Int) := by rw [hT2]; decide
    have hsg : decide (10 * q + addS q (decide (r ≠ 0)) < 0) = decide (q < 0) := decide_eq_decide.2 (addS_neg _ _)
    rw [hsg]
    have hX : xm * ((T * T : Nat) : Int) < 0 ↔ xm < 0 := by
      constructor
      · intro h
        by_cases h2 : xm < 0
        · exact h2
        · have := Int.mul_nonneg (Int.not_lt.1 h2) (Int.le_of_lt hp); omega
      · intro h; exact Int.mul_neg_of_neg_of_pos h hp
    generalize xm * ((T * T : Nat) : Int) = X at *
    by_cases s1 : xm < 0
    · have hXn := hX.2 s1
      by_cases s2 : ym < 0
      · have : 0 ≤ X.tdiv ym := by
          have := Int.tdiv_nonneg (a := -X) (b := -ym) (by omega) (by omega); rwa [Int.tdiv_neg, Int.neg_tdiv, Int.neg_neg] at this
        rw [decide_eq_true s1, decide_eq_true s2, decide_eq_false (by omega : ¬ q < 0)]; rfl
      · have : X.tdiv ym ≤ 0 := by
          have := Int.tdiv_nonneg (a := -X) (b := ym) (by omega) (by omega); rw [Int.neg_tdiv] at this; omega
        rw [decide_eq_true s1, decide_eq_false s2, decide_eq_true (by omega : q < 0)]; rfl
    · have hXn : 0 ≤ X := by
        by_cases h : X < 0
        · exact absurd (hX.1 h) s1
        · omega
      by_cases s2 : ym < 0
      · have : X.tdiv ym ≤ 0 := by
          have := Int.tdiv_nonneg (a := X) (b := -ym) hXn (by omega); rw [Int.tdiv_neg] at this; omega
        rw [decide_eq_false s1, decide_eq_true s2, decide_eq_true (by omega : q < 0)]; rfl
      · have : 0 ≤ X.tdiv ym := Int.tdiv_nonneg hXn (by omega)
        rw [decide_eq_false s1, decide_eq_false s2, decide_eq_false (by omega : ¬ q < 0)]; rfl
theorem root_form {m e : Int} (h : RV m.natAbs e) (h0 : 0 ≤ m) : rootR m e = resS (rndS (10 * (root (m.natAbs * 10 ^ rtK e) : Int) + (if root (m.natAbs * 10 ^ rtK e) * root (m.natAbs * 10 ^ rtK e) = m.natAbs * 10 ^ rtK e then 0 else 1)) ((e - rtK e).tdiv 2 - 1)) := by
  unfold rootR
  rw [if_neg (fun x => x h), if_neg (by omega)]
  by_cases hm : m = 0
  · subst hm
    have he : e = 0 := by unfold RV at h; omega
    subst he
    have hr0 : root 0 = 0 := root_eq (by decide) (by decide)
    rw [if_pos rfl, Int.natAbs_zero, Nat.zero_mul, hr0, if_pos rfl]
    show _ = resS (rndS 0 _)
    rw [rndS_zero]
    rfl
  · rw [if_neg hm, resR_sgo]
    congr 1
    obtain ⟨M, hM⟩ : ∃ M, m.natAbs = M := ⟨_, rfl⟩
    rw [hM] at h ⊢
    have hM0 : 0 < M := by omega
    obtain ⟨_, _, _, hX⟩ := rootL_facts h hM0
    obtain ⟨R, S, hr, hv⟩ := rootV_form h hM0
    have hsz := root_size h hM0 hr
    have hpar : (rootJ e = 16 ∧ rtK e = 30) ∨ (rootJ e = 15 ∧ rtK e = 31) := by
      unfold rootJ rtK
      have a := Int.mul_tdiv_add_tmod e 2
      have b := Int.mul_tdiv_add_tmod (e - 30) 2
      have bd : ∀ x : Int, -2 < x.tmod 2 ∧ x.tmod 2 < 2 := by
        intro x
        have c := Int.tmod_lt_of_pos x (show (0 : Int) < 2 by decide)
        have d := Int.tmod_lt_of_pos (-x) (show (0 : Int) < 2 by decide)
        rw [Int.neg_tmod] at d
        omega
      have c := bd e; have d := bd (e - 30)
      by_cases h1 : e.tmod 2 = 0
      · rw [if_pos h1, if_pos (by omega)]; exact .inl ⟨rfl, rfl⟩
      · rw [if_neg h1, if_neg (by omega)]; exact .inr ⟨rfl, rfl⟩
    have key : ∀ d J K : Nat, rootJ e = J → rtK e = K → K = J + 2 * d → 0 < d → sgo false (rootV M e) = rndS (10 * (root (M * 10 ^ K) : Int) + (if root (M * 10 ^ K) * root (M * 10 ^ K) = M * 10 ^ K then 0 else 1)) ((e - (K : Int)).tdiv 2 - 1) := by
      intro d J K hJ hK hd hd0
      rw [hJ] at hr hX
      have hP : M * 10 ^ K = M * 10 ^ J * 100 ^ d := by rw [hd, Nat.pow_add, Nat.pow_mul, Nat.mul_assoc]
      have hra : RootAt (M * 10 ^ J * 100 ^ d) (root (M * 10 ^ K)) (M * 10 ^ K - root (M * 10 ^ K) * root (M * 10 ^ K)) := by
        have h1 := root_le (M * 10 ^ K)
        have h2 := root_lt (M * 10 ^ K)
        rw [← hP]
        refine ⟨by omega, ?_⟩
        have : (root (M * 10 ^ K) + 1) * (root (M * 10 ^ K) + 1) = root (M * 10 ^ K) * root (M * 10 ^ K) + 2 * root (M * 10 ^ K) + 1 := by grind
        omega
      obtain ⟨B, hB1, hB2, hB3⟩ := rootAt_cut hr hra
      have hsq : root (M * 10 ^ K) * root (M * 10 ^ K) = M * 10 ^ K ↔ M * 10 ^ K - root (M * 10 ^ K) * root (M * 10 ^ K) = 0 := by
        have h1 := root_le (M * 10 ^ K)
        omega
      have hst := sticky2 (A := R) (B := B) (d := d) (decide (¬ root (M * 10 ^ K) * root (M * 10 ^ K) = M * 10 ^ K)) (by omega) hB2 hd0 ((e - (K : Int)).tdiv 2 - 1)
      rw [← hB1] at hst
      unfold rndS
      have hnn : (10 * (root (M * 10 ^ K) : Int) + (if root (M * 10 ^ K) * root (M * 10 ^ K) = M * 10 ^ K then 0 else 1)) = ((10 * root (M * 10 ^ K) + (if decide (¬ root (M * 10 ^ K) * root (M * 10 ^ K) = M * 10 ^ K) = true then 1 else 0) : Nat) : Int) := by
        by_cases hq : root (M * 10 ^ K) * root (M * 10 ^ K) = M * 10 ^ K
        · rw [if_pos hq, if_neg (by simp [hq])]; omega
        · rw [if_neg hq, if_pos (by simp [hq])]; omega
      rw [hnn, Int.natAbs_natCast, hst, decide_eq_false (by omega : ¬ (((10 * root (M * 10 ^ K) + (if decide (¬ root (M * 10 ^ K) * root (M * 10 ^ K) = M * 10 ^ K) = true then 1 else 0) : Nat) : Int) < 0))]
      have hif : (if B = 0 ∧ decide (¬ root (M * 10 ^ K) * root (M * 10 ^ K) = M * 10 ^ K) = false then (0 : Nat) else 1) = if S = 0 then 0 else 1 := by
        by_cases hS : S = 0
        · obtain ⟨b0, s0⟩ := hB3.1 hS
          rw [if_pos hS, if_pos ⟨b0, by simp [hsq.2 s0]⟩]
        · rw [if_neg hS, if_neg]
          rintro ⟨b0, s0⟩
          have : root (M * 10 ^ K) * root (M * 10 ^ K) = M * 10 ^ K := by simpa using s0
          exact hS (hB3.2 ⟨b0, hsq.1 this⟩)
      rw [hif, hv]
      congr 2
      have e1 : e - (K : Int) = 2 * (rootX M e - (d : Int)) := by omega
      rw [e1, Int.mul_tdiv_cancel_left _ (by decide)]
      omega
    rcases hpar with ⟨hJ, hK⟩ | ⟨hJ, hK⟩
    · have := key 7 16 30 hJ hK (by decide) (by decide)
      rw [hK]; exact this
    · have := key 8 15 31 hJ hK (by decide) (by decide)
      rw [hK]; exact this
end Go.Proofs.YtekbfommnmikbaaGreatDoor
