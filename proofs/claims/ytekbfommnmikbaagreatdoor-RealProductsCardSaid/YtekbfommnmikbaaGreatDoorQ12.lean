/- Texts of this claim, merged: SumsL. -/
import Derived.Test.YtekbfommnmikbaaGreatDoorQ11
/- The law RealSums: its walk. -/
namespace Go.Proofs.YtekbfommnmikbaaGreatDoor
set_option linter.unusedVariables false
set_option linter.unusedSimpArgs false
open Go.RowKit Go.Shelf Go.Proofs Go.Sort
attribute [local go_sem ↓] Go.wp_at_zero Go.wp_at_succ

theorem two_agr (xm xe ym ye zm ze : Int) : ∃ z1 z2 er a b k, doneR xm xe ym ye 0 (sumR [(xm, xe), (zm, ze)]) = .tuple #[.agg #[.int .i64 z1, .int .i64 z2], .int .i64 er] ∧ (argV (RV xm.natAbs xe) (RV ym.natAbs ye) = 0 → rdV (rndS (sumV [(xm, xe), (zm, ze)]) (-222)) = .agg #[.int .i64 a, .int .i64 b, .bool k]) ∧ (argV (RV xm.natAbs xe) (RV ym.natAbs ye) ≠ 0 → a = 0 ∧ b = 0 ∧ k = false) ∧ Agr z1 z2 er (argV (RV xm.natAbs xe) (RV ym.natAbs ye)) a b k := by
  refine gen_agr _ _ _ (fun h => ?_) (fun h => ?_)
  · unfold doneR; rw [if_pos (argV_ok h), if_pos rfl]; exact resR_rndS _ _
  · obtain ⟨hn, h1⟩ := argV_no h
    rw [h1]; unfold doneR; rw [if_neg hn]
/-- What is wrong with a list. -/
def badL (l : List (Int × Int)) : Int := if okL l = true then 0 else 1
theorem sum_agr (l : List (Int × Int)) (hl : l.length ≤ 1000) : ∃ z1 z2 er a b k, sumX l = .tuple #[.agg #[.int .i64 z1, .int .i64 z2], .int .i64 er] ∧ (badL l = 0 → rdV (rndS (sumV l) (-222)) = .agg #[.int .i64 a, .int .i64 b, .bool k]) ∧ (badL l ≠ 0 → a = 0 ∧ b = 0 ∧ k = false) ∧ Agr z1 z2 er (badL l) a b k := by
  refine gen_agr _ _ _ (fun h => ?_) (fun h => ?_)
  · unfold badL at h; unfold sumX; rw [if_neg (by omega)]
    split at h
    · rename_i h1; rw [if_pos h1]; exact resR_rndS _ _
    · cases h
  · unfold badL at h ⊢; unfold sumX; rw [if_neg (by omega)]
    split at h
    · exact absurd rfl h
    · rename_i h1; rw [if_neg h1, if_neg h1]
theorem badL_ok {l : List (Int × Int)} (h : badL l = 0) : ∀ p ∈ l, RV p.1.natAbs p.2 := by
  unfold badL okL at h
  split at h
  · rename_i h1
    intro p hp
    exact of_decide_eq_true (List.all_eq_true.1 h1 p hp)
  · cases h
theorem badL_snoc (l : List (Int × Int)) (p : Int × Int) : badL (l ++ [p]) = if RV p.1.natAbs p.2 then badL l else 1 := by
  unfold badL okL
  rw [List.all_append]
  simp only [List.all_cons, List.all_nil, Bool.and_true, Bool.and_eq_true, decide_eq_true_eq]
  by_cases h : RV p.1.natAbs p.2
  · rw [if_pos h]
    by_cases h2 : (l.all fun p => decide (RV p.1.natAbs p.2)) = true
    · rw [if_pos ⟨h2, h⟩, if_pos h2]
    · rw [if_neg (fun x => h2 x.1), if_neg h2]
  · rw [if_neg h, if_neg (fun x => h x.2)]
theorem rv_two {xm xe ym ye : Int} (hx : RV xm.natAbs xe) (hy : RV ym.natAbs ye) : ∀ p ∈ [(xm, xe), (ym, ye)], RV p.1.natAbs p.2 := by
  intro p hp
  rcases List.mem_cons.1 hp with rfl | hp
  · exact hx
  · rw [List.mem_singleton.1 hp]; exact hy

set_option maxRecDepth 100000 in
set_option maxHeartbeats 8000000 in
theorem sums1_c (b1 b2 : Nat) (xm xe ym ye a b : Int) (k : Bool) (w : World) (hx : RV xm.natAbs xe) (hy : RV ym.natAbs ye) (hr : rdV (rndS (sumV [(xm, xe), (ym, ye)]) (-222)) = .agg #[.int .i64 a, .int .i64 b, .bool k]) (c0 : w.cell? ⟨b1, 0, none⟩ = some (.int .i64 xm)) (c1 : w.cell? ⟨b1, 1, none⟩ = some (.int .i64 xe)) (z0 : w.cell? ⟨b2, 0, none⟩ = some (.int .i64 ym)) (z1 : w.cell? ⟨b2, 1, none⟩ = some (.int .i64 ye)) :
    Calls Tryz.prog 36 #[.pointer (some ⟨b1, 0, none⟩), .pointer (some ⟨b2, 0, none⟩)] w fun en w' => en = .returned (.agg #[.int .i64 a, .int .i64 b, .bool k]) ∧ Below w.heap.size w w' := by
  obtain ⟨W, hW, k0⟩ : ∃ W, w.alloc (.cells #[.int .i64 0, .int .i64 0, .bool false] 30) = W ∧ W.heap[w.heap.size]? = some (.cells #[.int .i64 0, .int .i64 0, .bool false] 30 (0, 0)) := ⟨_, rfl, heap_alloc_new _ _⟩
  have hbel : Below w.heap.size w W := by rw [← hW]; exact (Below.refl _ _).alloc (Nat.le_refl _) _
  have c0 := keep_cell hbel c0; have c1 := keep_cell hbel c1; have z0 := keep_cell hbel z0; have z1 := keep_cell hbel z1
  have BOX := box3 k0
  have FIN := fin3 k0 (Nat.le_refl _) hbel
  clear k0 hbel
  have HSM := Lib.hid (fun A w' (hr : Reals w' A [(xm, xe), (ym, ye)]) => ssum_c A 2 [(xm, xe), (ym, ye)] w' hr (rv_two hx hy) (by simp))
  simp only [List.length_cons, List.length_nil] at HSM
  rw [hr] at HSM
  clear hx hy hr
  go_enter Tryz.func36, Tryz.ntmps36
  go_wp2_with (go_at_call 37; (with_reducible refine (HSM.out _ _ (reals_two (heap_alloc_new _ _))).mono ?_); rintro en w3 ⟨rfl, hbz⟩; have HB := Lib.hid (belowT ((Below.refl W.heap.size W).alloc (Nat.le_refl _) _) hbz); clear hbz; obtain ⟨d0, d1, d2, f0, f1, f2⟩ := BOX.out _ HB.out)
  obtain ⟨r0, r1, r2, hbb⟩ := FIN.out _ (.int .i64 a) (.int .i64 b) (.bool k) HB.out
  refine bodyPost_ret (v := .agg #[.int .i64 a, .int .i64 b, .bool k]) (by simp [results, Tryz.results36, go_sem, r0, r1, r2]) rfl ?_
  exact ⟨rfl, hbb⟩

set_option maxRecDepth 100000 in
set_option maxHeartbeats 8000000 in
theorem sums2_c (b1 b2 : Nat) (xm xe ym ye a b : Int) (k : Bool) (w : World) (hx : RV xm.natAbs xe) (hy : RV ym.natAbs ye) (hr : rdV (rndS (sumV [(xm, xe), (-ym, ye)]) (-222)) = .agg #[.int .i64 a, .int .i64 b, .bool k]) (c0 : w.cell? ⟨b1, 0, none⟩ = some (.int .i64 xm)) (c1 : w.cell? ⟨b1, 1, none⟩ = some (.int .i64 xe)) (z0 : w.cell? ⟨b2, 0, none⟩ = some (.int .i64 ym)) (z1 : w.cell? ⟨b2, 1, none⟩ = some (.int .i64 ye)) :
    Calls Tryz.prog 38 #[.pointer (some ⟨b1, 0, none⟩), .pointer (some ⟨b2, 0, none⟩)] w fun en w' => en = .returned (.agg #[.int .i64 a, .int .i64 b, .bool k]) ∧ Below w.heap.size w w' := by
  obtain ⟨W, hW, k0⟩ : ∃ W, w.alloc (.cells #[.int .i64 0, .int .i64 0, .bool false] 30) = W ∧ W.heap[w.heap.size]? = some (.cells #[.int .i64 0, .int .i64 0, .bool false] 30 (0, 0)) := ⟨_, rfl, heap_alloc_new _ _⟩
  have hbel : Below w.heap.size w W := by rw [← hW]; exact (Below.refl _ _).alloc (Nat.le_refl _) _
  have c0 := keep_cell hbel c0; have c1 := keep_cell hbel c1; have z0 := keep_cell hbel z0; have z1 := keep_cell hbel z1
  have BOX := box3 k0
  have FIN := fin3 k0 (Nat.le_refl _) hbel
  clear k0 hbel
  have hny : RV (-ym).natAbs ye := by rw [Int.natAbs_neg]; exact hy
  have HSM := Lib.hid (fun A w' (hr : Reals w' A [(xm, xe), (-ym, ye)]) => ssum_c A 2 [(xm, xe), (-ym, ye)] w' hr (rv_two hx hny) (by simp))
  simp only [List.length_cons, List.length_nil] at HSM
  rw [hr] at HSM
  obtain ⟨y0, y1, y2, y3⟩ := rv_rng hy
  have HNG := Lib.hid (fun w' => sneg_c ym ye w' (by omega) (by omega))
  clear hx hy hr hny y0 y1 y2 y3
  go_enter Tryz.func38, Tryz.ntmps38
  go_upto_region 1 with fail
  go_cut [7] from 3 to 7 (fun _ wx => wx.cell? ⟨w.heap.size, 0, none⟩ = some (.int .i64 a) ∧ wx.cell? ⟨w.heap.size, 1, none⟩ = some (.int .i64 b) ∧ wx.cell? ⟨w.heap.size, 2, none⟩ = some (.bool k) ∧ Below w.heap.size w wx)
  case first =>
    have HSTL : StableL [(fun _ v => v = .agg #[.int .i64 xm, .int .i64 xe]), (fun _ v => v = .agg #[.int .i64 ym, .int .i64 ye]), (fun _ v => v = .agg #[.int .i64 (-ym), .int .i64 ye]), (fun wz v => ∃ A, v = .slice A 2 2 ∧ Reals wz A [(xm, xe), (-ym, ye)]), (fun _ v => v = .agg #[.int .i64 a, .int .i64 b, .bool k]), (fun _ _ => True)] := ⟨(fun _ _ _ _ h => h), (fun _ _ _ _ h => h), (fun _ _ _ _ h => h), (fun _ _ _ hb ⟨A, e, h1⟩ => ⟨A, e, h1.below hb⟩), (fun _ _ _ _ h => h), (fun _ _ _ _ h => h), trivial⟩
    refine wp_region_p [3, 4, 5, 6, 7] [3, 4, 5, 6, 7, 1000] [(fun _ v => v = .agg #[.int .i64 xm, .int .i64 xe]), (fun _ v => v = .agg #[.int .i64 ym, .int .i64 ye]), (fun _ v => v = .agg #[.int .i64 (-ym), .int .i64 ye]), (fun wz v => ∃ A, v = .slice A 2 2 ∧ Reals wz A [(xm, xe), (-ym, ye)]), (fun _ v => v = .agg #[.int .i64 a, .int .i64 b, .bool k]), (fun _ _ => True)] 5 (fun _ wx => wx.cell? ⟨w.heap.size, 0, none⟩ = some (.int .i64 a) ∧ wx.cell? ⟨w.heap.size, 1, none⟩ = some (.int .i64 b) ∧ wx.cell? ⟨w.heap.size, 2, none⟩ = some (.bool k) ∧ Below w.heap.size w wx) 6 rfl (by kernel_rfl) (by kernel_rfl) ?_ ⟨?_, ?_, ?_, ?_, ?_, ?_, trivial⟩
    · intro l us wx hl hJ
      have HF := Lib.hid (hJ.ended hl (by decide))
      clear hl hJ
      simp only [At, List.foldl_cons, List.foldl_nil, List.setIfInBounds_toArray, List.set_cons_zero, List.set_cons_succ]
      go_wp2_with fail
      go_meet
      exact HF.out
    · refine opAt rfl ?_
      intro l us wx hJ hp hl K hK
      have HJ := Lib.hid hJ; have HP := Lib.hid hp; have HLI := Lib.hid hl; have HF := Lib.hid (hJ.live hl (by decide)); have HBX := Lib.hid (hJ.below HF.out); have HK := hK
      clear hJ hp hl hK
      simp only [At, List.foldl_cons, List.foldl_nil, List.setIfInBounds_toArray, List.set_cons_zero, List.set_cons_succ] at HK
      have HK := Lib.hid HK
      have c0 := keep_cell HBX.out c0
      have c1 := keep_cell HBX.out c1
      simp only [At, List.foldl_cons, List.foldl_nil, List.setIfInBounds_toArray, List.set_cons_zero, List.set_cons_succ]
      refine ⟨?_⟩
      go_simp
      exact HK.out (upd us 3 (.agg #[.int .i64 xm, .int .i64 xe])) wx (by exact HJ.out.go HSTL (by kernel_rfl) 0 HF.out (by decide) (by decide) HP.out (Below.refl _ _) (.agg #[.int .i64 xm, .int .i64 xe]) (rfl))
    · refine opAt rfl ?_
      intro l us wx hJ hp hl K hK
      have HJ := Lib.hid hJ; have HP := Lib.hid hp; have HLI := Lib.hid hl; have HF := Lib.hid (hJ.live hl (by decide)); have HBX := Lib.hid (hJ.below HF.out); have HK := hK
      clear hJ hp hl hK
      simp only [At, List.foldl_cons, List.foldl_nil, List.setIfInBounds_toArray, List.set_cons_zero, List.set_cons_succ] at HK
      have HK := Lib.hid HK
      have z0 := keep_cell HBX.out z0
      have z1 := keep_cell HBX.out z1
      simp only [At, List.foldl_cons, List.foldl_nil, List.setIfInBounds_toArray, List.set_cons_zero, List.set_cons_succ]
      refine ⟨?_⟩
      go_simp
      exact HK.out (upd us 4 (.agg #[.int .i64 ym, .int .i64 ye])) wx (by exact HJ.out.go HSTL (by kernel_rfl) 1 HF.out (by decide) (by decide) HP.out (Below.refl _ _) (.agg #[.int .i64 ym, .int .i64 ye]) (rfl))
    · refine opAt rfl ?_
      intro l us wx hJ hp hl K hK
      have HJ := Lib.hid hJ; have HP := Lib.hid hp; have HLI := Lib.hid hl; have HF := Lib.hid (hJ.live hl (by decide)); have HBX := Lib.hid (hJ.below HF.out); have HK := hK
      clear hJ hp hl hK
      simp only [At, List.foldl_cons, List.foldl_nil, List.setIfInBounds_toArray, List.set_cons_zero, List.set_cons_succ] at HK
      have HK := Lib.hid HK
      have h4 : us 4 = .agg #[.int .i64 ym, .int .i64 ye] := HJ.out.val HF.out 1 (by decide) (HP.out 1 (by kernel_rfl))
      simp only [At, List.foldl_cons, List.foldl_nil, List.setIfInBounds_toArray, List.set_cons_zero, List.set_cons_succ]
      refine ⟨?_⟩
      go_simp
      go_wp2_with ((go_at_call 39; (with_reducible refine (HNG.out _).mono ?_); rintro en w9 ⟨rfl, hbz⟩; have HC := Lib.hid hbz; clear hbz))
      exact HK.out (upd (upd us 4 (.agg #[.int .i64 ym, .int .i64 ye])) 5 (.agg #[.int .i64 (-ym), .int .i64 ye])) w9 (by rw [upd_self h4]; exact HJ.out.go HSTL (by kernel_rfl) 2 HF.out (by decide) (by decide) HP.out HC.out (.agg #[.int .i64 (-ym), .int .i64 ye]) (rfl))
    · refine opAt rfl ?_
      intro l us wx hJ hp hl K hK
      have HJ := Lib.hid hJ; have HP := Lib.hid hp; have HLI := Lib.hid hl; have HF := Lib.hid (hJ.live hl (by decide)); have HBX := Lib.hid (hJ.below HF.out); have HK := hK
      clear hJ hp hl hK
      simp only [At, List.foldl_cons, List.foldl_nil, List.setIfInBounds_toArray, List.set_cons_zero, List.set_cons_succ] at HK
      have HK := Lib.hid HK
      have h3 : us 3 = .agg #[.int .i64 xm, .int .i64 xe] := HJ.out.val HF.out 0 (by decide) (HP.out 0 (by kernel_rfl))
      have h5 : us 5 = .agg #[.int .i64 (-ym), .int .i64 ye] := HJ.out.val HF.out 2 (by decide) (HP.out 2 (by kernel_rfl))
      simp only [At, List.foldl_cons, List.foldl_nil, List.setIfInBounds_toArray, List.set_cons_zero, List.set_cons_succ]
      refine ⟨?_⟩
      go_simp
      exact HK.out (upd (upd (upd us 3 (.agg #[.int .i64 xm, .int .i64 xe])) 5 (.agg #[.int .i64 (-ym), .int .i64 ye])) 6 (.slice (some ⟨wx.heap.size, 0, none⟩) 2 2)) (wx.alloc _) (by rw [upd_self h3, upd_self h5]; exact HJ.out.go HSTL (by kernel_rfl) 3 HF.out (by decide) (by decide) HP.out ((Below.refl _ _).alloc (Nat.le_refl _) _) (.slice (some ⟨wx.heap.size, 0, none⟩) 2 2) (⟨_, rfl, reals_two (heap_alloc_new _ _)⟩))
    · refine opAt rfl ?_
      intro l us wx hJ hp hl K hK
      have HJ := Lib.hid hJ; have HP := Lib.hid hp; have HLI := Lib.hid hl; have HF := Lib.hid (hJ.live hl (by decide)); have HBX := Lib.hid (hJ.below HF.out); have HK := hK
      clear hJ hp hl hK
      simp only [At, List.foldl_cons, List.foldl_nil, List.setIfInBounds_toArray, List.set_cons_zero, List.set_cons_succ] at HK
      have HK := Lib.hid HK
      have h6 : ∃ A, us 6 = .slice A 2 2 ∧ Reals wx A [(xm, xe), (-ym, ye)] := HJ.out.val HF.out 3 (by decide) (HP.out 3 (by kernel_rfl))
      obtain ⟨A6, e6, hr6⟩ := h6
      simp only [At, List.foldl_cons, List.foldl_nil, List.setIfInBounds_toArray, List.set_cons_zero, List.set_cons_succ]
      refine ⟨?_⟩
      go_simp
      go_wp2_with ((go_at_call 37; (with_reducible refine (HSM.out _ _ hr6).mono ?_); rintro en w9 ⟨rfl, hbz⟩; have HC := Lib.hid hbz; clear hbz))
      exact HK.out (upd (upd us 6 (.slice A6 2 2)) 7 (.agg #[.int .i64 a, .int .i64 b, .bool k])) w9 (by rw [upd_self e6]; exact HJ.out.go HSTL (by kernel_rfl) 4 HF.out (by decide) (by decide) HP.out HC.out (.agg #[.int .i64 a, .int .i64 b, .bool k]) (rfl))
    · refine opAt rfl ?_
      intro l us wx hJ hp hl K hK
      have HJ := Lib.hid hJ; have HP := Lib.hid hp; have HLI := Lib.hid hl; have HF := Lib.hid (hJ.live hl (by decide)); have HBX := Lib.hid (hJ.below HF.out); have HK := hK
      clear hJ hp hl hK
      simp only [At, List.foldl_cons, List.foldl_nil, List.setIfInBounds_toArray, List.set_cons_zero, List.set_cons_succ] at HK
      have HK := Lib.hid HK
      have h7 : us 7 = .agg #[.int .i64 a, .int .i64 b, .bool k] := HJ.out.val HF.out 4 (by decide) (HP.out 4 (by kernel_rfl))
      obtain ⟨d0, d1, d2, f0, f1, f2⟩ := BOX.out _ HBX.out
      simp only [At, List.foldl_cons, List.foldl_nil, List.setIfInBounds_toArray, List.set_cons_zero, List.set_cons_succ]
      refine ⟨?_⟩
      go_simp
      exact HK.out (upd us 7 (.agg #[.int .i64 a, .int .i64 b, .bool k])) _ (by rw [upd_self h7]; exact HJ.out.store (by kernel_rfl) HLI.out HP.out (FIN.out _ _ _ _ HBX.out))
  case rest =>
    obtain ⟨r0, r1, r2, hbb⟩ := hcut
    go_wp2_with fail
    refine bodyPost_ret (v := .agg #[.int .i64 a, .int .i64 b, .bool k]) (by simp [results, Tryz.results38, go_sem, r0, r1, r2]) rfl ?_
    exact ⟨rfl, hbb⟩

set_option maxRecDepth 100000 in
set_option maxHeartbeats 8000000 in
theorem sums3_c (b1 : Nat) (A : Option Addr) (n c : Nat) (l : List (Int × Int)) (a b : Int) (k : Bool) (w : World) (hn : l.length = n) (hr : Reals w A l) (hv : ∀ p ∈ l, RV p.1.natAbs p.2) (hl : n ≤ 1000) (hf : rdV (rndS (sumV l) (-222)) = .agg #[.int .i64 a, .int .i64 b, .bool k]) (c0 : w.cell? ⟨b1, 0, none⟩ = some (.slice A n c)) :
    Calls Tryz.prog 41 #[.pointer (some ⟨b1, 0, none⟩)] w fun en w' => en = .returned (.agg #[.int .i64 a, .int .i64 b, .bool k]) ∧ Below w.heap.size w w' := by
  obtain ⟨W, hW, k0⟩ : ∃ W, w.alloc (.cells #[.int .i64 0, .int .i64 0, .bool false] 30) = W ∧ W.heap[w.heap.size]? = some (.cells #[.int .i64 0, .int .i64 0, .bool false] 30 (0, 0)) := ⟨_, rfl, heap_alloc_new _ _⟩
  have hbel : Below w.heap.size w W := by rw [← hW]; exact (Below.refl _ _).alloc (Nat.le_refl _) _
  have c0 := keep_cell hbel c0
  have hr := hr.below hbel
  have BOX := box3 k0
  have FIN := fin3 k0 (Nat.le_refl _) hbel
  clear k0 hbel
  have HSM := Lib.hid (ssum_c A c l W hr hv (by omega))
  rw [hf, hn] at HSM
  clear hr hv hf hn
  go_enter Tryz.func41, Tryz.ntmps41
  go_wp2_with (go_at_call 37; (with_reducible refine (HSM.out).mono ?_); rintro en w3 ⟨rfl, hbz⟩; have HB := Lib.hid hbz; clear hbz; obtain ⟨d0, d1, d2, f0, f1, f2⟩ := BOX.out _ HB.out)
  obtain ⟨r0, r1, r2, hbb⟩ := FIN.out _ (.int .i64 a) (.int .i64 b) (.bool k) HB.out
  refine bodyPost_ret (v := .agg #[.int .i64 a, .int .i64 b, .bool k]) (by simp [results, Tryz.results41, go_sem, r0, r1, r2]) rfl ?_
  exact ⟨rfl, hbb⟩

set_option maxRecDepth 100000 in
set_option maxHeartbeats 16000000 in
theorem sums_walk (xm xe ym ye : Int) (A : Option Addr) (c : Nat) (l : List (Int × Int)) (w : World) (ht : P10 w) (hr : Reals w A l) (hi : In64 l) (hlc : l.length ≤ 9223372036854775807) (hx0 : -9223372036854775808 ≤ xm) (hx1 : xm ≤ 9223372036854775807) (hy0 : -9223372036854775808 ≤ ym) (hy1 : ym ≤ 9223372036854775807) :
    Calls Tryz.prog 6 #[.agg #[.int .i64 xm, .int .i64 xe], .agg #[.int .i64 ym, .int .i64 ye], .slice A l.length c] w fun en w' => en = .returned (.bool true) ∧ Below w.heap.size w w' := by
  obtain ⟨n, hn⟩ : ∃ n, l.length = n := ⟨_, rfl⟩
  have HN := Lib.hid hn
  rw [hn] at hlc ⊢
  obtain ⟨W, hW, q0, q1, q2, hbel⟩ := bx3h w #[.int .i64 xm, .int .i64 xe] #[.int .i64 ym, .int .i64 ye] #[.slice A n c] 23 23 45
  have HBEL := Lib.hid hbel
  have HT := Lib.hid (ht.below hbel)
  have HR := Lib.hid (hr.below hbel)
  have HIN := Lib.hid hi
  have HLC := Lib.hid hlc
  obtain ⟨c0, c1⟩ := two_cells q0
  obtain ⟨z0, z1⟩ := two_cells q1
  have l0 := cell_of_heap q2 0
  simp at l0
  have HSAN : Hid (∀ w' : World, P10 w' → Calls Tryz.prog 25 #[] w' fun e w2 => e = .returned (.bool true) ∧ Below w'.heap.size w' w2) := sanityR_c
  obtain ⟨x1, y1, e1, a1, b1, k1, hst1, hok1, hno1, hag1⟩ := two_agr xm xe ym ye ym ye
  obtain ⟨x2, y2, e2, a2, b2, k2, hst2, hok2, hno2, hag2⟩ := two_agr xm xe ym ye (-ym) ye
  have HM := Lib.hid (fun w' => addX_c xm xe ym ye w' hx0 hx1 hy0 hy1)
  rw [show addX xm xe ym ye = _ from hst1] at HM
  have HD := Lib.hid (fun w' => subX_c xm xe ym ye w' hx0 hx1 hy0 hy1)
  rw [show subX xm xe ym ye = _ from hst2] at HD
  have HARG := Lib.hid (fun w' => arg_c xm xe ym ye w' hx0 hx1 hy0 hy1)
  have HAG1 := Lib.hid (fun w' => agrees_c _ _ _ _ _ _ _ w' hag1)
  have HAG2 := Lib.hid (fun w' => agrees_c _ _ _ _ _ _ _ w' hag2)
  have HSUM := Lib.hid (fun w' (hr : Reals w' A l) => sumX_c A c l w' hr hi (by omega))
  rw [hn] at HSUM
  have HNONE1 : Hid (∀ w' : World, w'.cell? ⟨w.heap.size, 0, none⟩ = some (.int .i64 xm) → w'.cell? ⟨w.heap.size, 1, none⟩ = some (.int .i64 xe) → w'.cell? ⟨w.heap.size + 1, 0, none⟩ = some (.int .i64 ym) → w'.cell? ⟨w.heap.size + 1, 1, none⟩ = some (.int .i64 ye) → Calls Tryz.prog 22 #[.int .i64 (argV (RV xm.natAbs xe) (RV ym.natAbs ye)), .func (.func 36) #[] #[.pointer (some ⟨w.heap.size, 0, none⟩), .pointer (some ⟨w.heap.size + 1, 0, none⟩)]] w' fun en w2 => en = .returned (.agg #[.int .i64 a1, .int .i64 b1, .bool k1]) ∧ Below w'.heap.size w' w2) := by
    intro w' e0 e1 e2 e3
    by_cases h : argV (RV xm.natAbs xe) (RV ym.natAbs ye) = 0
    · have hr := hok1 h
      obtain ⟨h1, h2⟩ := argV_ok h
      rw [h]
      exact none_ok _ _ a1 b1 k1 w' (enters_of Tryz.func36 (by kernel_rfl) rfl) fun w2 hb => sums1_c _ _ xm xe ym ye a1 b1 k1 w2 h1 h2 hr (keep_cell hb e0) (keep_cell hb e1) (keep_cell hb e2) (keep_cell hb e3)
    · obtain ⟨rfl, rfl, rfl⟩ := hno1 h
      exact none_bad _ _ w' h
  have HNONE2 : Hid (∀ w' : World, w'.cell? ⟨w.heap.size, 0, none⟩ = some (.int .i64 xm) → w'.cell? ⟨w.heap.size, 1, none⟩ = some (.int .i64 xe) → w'.cell? ⟨w.heap.size + 1, 0, none⟩ = some (.int .i64 ym) → w'.cell? ⟨w.heap.size + 1, 1, none⟩ = some (.int .i64 ye) → Calls Tryz.prog 22 #[.int .i64 (argV (RV xm.natAbs xe) (RV ym.natAbs ye)), .func (.func 38) #[] #[.pointer (some ⟨w.heap.size, 0, none⟩), .pointer (some ⟨w.heap.size + 1, 0, none⟩)]] w' fun en w2 => en = .returned (.agg #[.int .i64 a2, .int .i64 b2, .bool k2]) ∧ Below w'.heap.size w' w2) := by
    intro w' e0 e1 e2 e3
    by_cases h : argV (RV xm.natAbs xe) (RV ym.natAbs ye) = 0
    · have hr := hok2 h
      obtain ⟨h1, h2⟩ := argV_ok h
      rw [h]
      exact none_ok _ _ a2 b2 k2 w' (enters_of Tryz.func38 (by kernel_rfl) rfl) fun w2 hb => sums2_c _ _ xm xe ym ye a2 b2 k2 w2 h1 h2 hr (keep_cell hb e0) (keep_cell hb e1) (keep_cell hb e2) (keep_cell hb e3)
    · obtain ⟨rfl, rfl, rfl⟩ := hno2 h
      exact none_bad _ _ w' h
  obtain ⟨bad, hbad⟩ : ∃ bad, argV (RV xm.natAbs xe) (RV ym.natAbs ye) = bad := ⟨_, rfl⟩
  rw [hbad] at HARG HAG1 HNONE1 HAG2 HNONE2
  clear q0 q1 q2 hbel hst1 hok1 hno1 hag1 hst2 hok2 hno2 hag2 hbad hx0 hx1 hy0 hy1 hr hi hn hlc
  go_enter Tryz.func6, Tryz.ntmps6
  go_upto_region 4 with (first
    | (go_at_call 34; (with_reducible refine (HM.out _).mono ?_); rintro en w2 ⟨rfl, hbz⟩; have c0 := keep_cell hbz c0; have c1 := keep_cell hbz c1; have z0 := keep_cell hbz z0; have z1 := keep_cell hbz z1; have Ac0 := fun o => keep_cell ((Below.refl _ _).alloc (Nat.le_refl _) o) c0; have Ac1 := fun o => keep_cell ((Below.refl _ _).alloc (Nat.le_refl _) o) c1; have Az0 := fun o => keep_cell ((Below.refl _ _).alloc (Nat.le_refl _) o) z0; have Az1 := fun o => keep_cell ((Below.refl _ _).alloc (Nat.le_refl _) o) z1; have l0 := keep_cell hbz l0; have Al0 := fun o => keep_cell ((Below.refl _ _).alloc (Nat.le_refl _) o) l0; have HB := Lib.hid hbz; clear hbz)
    | (go_at_call 35; (with_reducible refine (HD.out _).mono ?_); rintro en w3 ⟨rfl, hbz⟩; have c0 := keep_cell hbz (keep_cell ((Below.refl _ _).alloc (Nat.le_refl _) _) c0); have c1 := keep_cell hbz (keep_cell ((Below.refl _ _).alloc (Nat.le_refl _) _) c1); have z0 := keep_cell hbz (keep_cell ((Below.refl _ _).alloc (Nat.le_refl _) _) z0); have z1 := keep_cell hbz (keep_cell ((Below.refl _ _).alloc (Nat.le_refl _) _) z1); obtain ⟨q0, q1⟩ := two_cells (heapB hbz (heap_alloc_new _ _)); have Ac0 := fun o => keep_cell ((Below.refl _ _).alloc (Nat.le_refl _) o) c0; have Ac1 := fun o => keep_cell ((Below.refl _ _).alloc (Nat.le_refl _) o) c1; have Az0 := fun o => keep_cell ((Below.refl _ _).alloc (Nat.le_refl _) o) z0; have Az1 := fun o => keep_cell ((Below.refl _ _).alloc (Nat.le_refl _) o) z1; have Aq0 := fun o => keep_cell ((Below.refl _ _).alloc (Nat.le_refl _) o) q0; have Aq1 := fun o => keep_cell ((Below.refl _ _).alloc (Nat.le_refl _) o) q1; have l0 := keep_cell hbz (keep_cell ((Below.refl _ _).alloc (Nat.le_refl _) _) l0); have Al0 := fun o => keep_cell ((Below.refl _ _).alloc (Nat.le_refl _) o) l0; have HB := Lib.hid (belowT (belowA HB.out _) hbz); clear hbz)
    | (go_at_call 20; (with_reducible refine (HARG.out _).mono ?_); rintro en ZW ⟨rfl, hbz⟩; have c0 := keep_cell hbz (keep_cell ((Below.refl _ _).alloc (Nat.le_refl _) _) c0); have c1 := keep_cell hbz (keep_cell ((Below.refl _ _).alloc (Nat.le_refl _) _) c1); have z0 := keep_cell hbz (keep_cell ((Below.refl _ _).alloc (Nat.le_refl _) _) z0); have z1 := keep_cell hbz (keep_cell ((Below.refl _ _).alloc (Nat.le_refl _) _) z1); have q0 := keep_cell hbz (keep_cell ((Below.refl _ _).alloc (Nat.le_refl _) _) q0); have q1 := keep_cell hbz (keep_cell ((Below.refl _ _).alloc (Nat.le_refl _) _) q1); obtain ⟨s0, s1⟩ := two_cells (heapB hbz (heap_alloc_new _ _)); have Ac0 := fun o => keep_cell ((Below.refl _ _).alloc (Nat.le_refl _) o) c0; have Ac1 := fun o => keep_cell ((Below.refl _ _).alloc (Nat.le_refl _) o) c1; have Az0 := fun o => keep_cell ((Below.refl _ _).alloc (Nat.le_refl _) o) z0; have Az1 := fun o => keep_cell ((Below.refl _ _).alloc (Nat.le_refl _) o) z1; have Aq0 := fun o => keep_cell ((Below.refl _ _).alloc (Nat.le_refl _) o) q0; have Aq1 := fun o => keep_cell ((Below.refl _ _).alloc (Nat.le_refl _) o) q1; have As0 := fun o => keep_cell ((Below.refl _ _).alloc (Nat.le_refl _) o) s0; have As1 := fun o => keep_cell ((Below.refl _ _).alloc (Nat.le_refl _) o) s1; have l0 := keep_cell hbz (keep_cell ((Below.refl _ _).alloc (Nat.le_refl _) _) l0); have Al0 := fun o => keep_cell ((Below.refl _ _).alloc (Nat.le_refl _) o) l0; have HB := Lib.hid (belowT (belowA HB.out _) hbz); clear hbz))
  have HBZ := HB
  clear HB Ac0 Ac1 Az0 Az1 Aq0 Aq1 As0 As1 Al0
  go_cut [47] from 30 to 47 (fun v wx => v = .bool false ∧ Hid (Below ZW.heap.size ZW wx))
  case first =>
    have HSTL : StableL [(fun _ v => v = .agg #[.int .i64 x1, .int .i64 y1]), (fun _ v => v = .int .i64 e1), (fun _ v => v = .int .i64 bad), (fun _ v => v = .int .i64 bad), (fun _ v => v = .func (.func 36) #[] #[.pointer (some ⟨w.heap.size, 0, none⟩), .pointer (some ⟨w.heap.size + 1, 0, none⟩)]), (fun _ v => v = .agg #[.int .i64 a1, .int .i64 b1, .bool k1]), (fun _ v => v = .bool true), (fun _ v => v = .bool false), (fun _ v => v = .bool false), (fun _ v => v = .agg #[.int .i64 x2, .int .i64 y2]), (fun _ v => v = .int .i64 e2), (fun _ v => v = .int .i64 bad), (fun _ v => v = .int .i64 bad), (fun _ v => v = .func (.func 38) #[] #[.pointer (some ⟨w.heap.size, 0, none⟩), .pointer (some ⟨w.heap.size + 1, 0, none⟩)]), (fun _ v => v = .agg #[.int .i64 a2, .int .i64 b2, .bool k2]), (fun _ v => v = .bool true), (fun _ v => v = .bool false), (fun _ v => v = .bool false)] := ⟨(fun _ _ _ _ h => h), (fun _ _ _ _ h => h), (fun _ _ _ _ h => h), (fun _ _ _ _ h => h), (fun _ _ _ _ h => h), (fun _ _ _ _ h => h), (fun _ _ _ _ h => h), (fun _ _ _ _ h => h), (fun _ _ _ _ h => h), (fun _ _ _ _ h => h), (fun _ _ _ _ h => h), (fun _ _ _ _ h => h), (fun _ _ _ _ h => h), (fun _ _ _ _ h => h), (fun _ _ _ _ h => h), (fun _ _ _ _ h => h), (fun _ _ _ _ h => h), (fun _ _ _ _ h => h), trivial⟩
    refine wp_region_p [30, 31, 32, 33, 34, 35, 36, 37, 38, 39, 40, 41, 42, 43, 44, 45, 46, 47] [30, 31, 32, 33, 34, 35, 36, 37, 38, 39, 40, 41, 42, 43, 44, 45, 46, 47] [(fun _ v => v = .agg #[.int .i64 x1, .int .i64 y1]), (fun _ v => v = .int .i64 e1), (fun _ v => v = .int .i64 bad), (fun _ v => v = .int .i64 bad), (fun _ v => v = .func (.func 36) #[] #[.pointer (some ⟨w.heap.size, 0, none⟩), .pointer (some ⟨w.heap.size + 1, 0, none⟩)]), (fun _ v => v = .agg #[.int .i64 a1, .int .i64 b1, .bool k1]), (fun _ v => v = .bool true), (fun _ v => v = .bool false), (fun _ v => v = .bool false), (fun _ v => v = .agg #[.int .i64 x2, .int .i64 y2]), (fun _ v => v = .int .i64 e2), (fun _ v => v = .int .i64 bad), (fun _ v => v = .int .i64 bad), (fun _ v => v = .func (.func 38) #[] #[.pointer (some ⟨w.heap.size, 0, none⟩), .pointer (some ⟨w.heap.size + 1, 0, none⟩)]), (fun _ v => v = .agg #[.int .i64 a2, .int .i64 b2, .bool k2]), (fun _ v => v = .bool true), (fun _ v => v = .bool false), (fun _ v => v = .bool false)] 18 (fun _ _ => True) 18 rfl (by kernel_rfl) (by kernel_rfl) ?_ ⟨?_, ?_, ?_, ?_, ?_, ?_, ?_, ?_, ?_, ?_, ?_, ?_, ?_, ?_, ?_, ?_, ?_, ?_, trivial⟩
    · intro l us wx hl hJ
      have HNF := hJ.nofin (by kernel_rfl)
      have HB := Lib.hid (hJ.below HNF)
      have h47 : us 47 = .bool false := hJ.val HNF 17 (by decide) (hl 17 (by decide))
      clear hl hJ
      simp only [At, List.foldl_cons, List.foldl_nil, List.setIfInBounds_toArray, List.set_cons_zero, List.set_cons_succ]
      go_wp2_with fail
      go_meet
      exact ⟨by first | rfl | assumption, HB⟩
    · refine opAt rfl ?_
      intro l us wx hJ hp hl K hK
      have HJ := Lib.hid hJ; have HP := Lib.hid hp; have HLI := Lib.hid hl; have HF := Lib.hid (hJ.live hl (by decide)); have HBX := Lib.hid (hJ.below HF.out); have HK := hK
      clear hJ hp hl hK
      simp only [At, List.foldl_cons, List.foldl_nil, List.setIfInBounds_toArray, List.set_cons_zero, List.set_cons_succ] at HK
      have HK := Lib.hid HK
      have q0 := keep_cell HBX.out q0
      have q1 := keep_cell HBX.out q1
      simp only [At, List.foldl_cons, List.foldl_nil, List.setIfInBounds_toArray, List.set_cons_zero, List.set_cons_succ]
      refine ⟨?_⟩
      go_simp
      exact HK.out (upd us 30 (.agg #[.int .i64 x1, .int .i64 y1])) wx (by exact HJ.out.go HSTL (by kernel_rfl) 0 HF.out (by decide) (by decide) HP.out (Below.refl _ _) (.agg #[.int .i64 x1, .int .i64 y1]) (rfl))
    · refine opAt rfl ?_
      intro l us wx hJ hp hl K hK
      have HJ := Lib.hid hJ; have HP := Lib.hid hp; have HLI := Lib.hid hl; have HF := Lib.hid (hJ.live hl (by decide)); have HBX := Lib.hid (hJ.below HF.out); have HK := hK
      clear hJ hp hl hK
      simp only [At, List.foldl_cons, List.foldl_nil, List.setIfInBounds_toArray, List.set_cons_zero, List.set_cons_succ] at HK
      have HK := Lib.hid HK
      simp only [At, List.foldl_cons, List.foldl_nil, List.setIfInBounds_toArray, List.set_cons_zero, List.set_cons_succ]
      refine ⟨?_⟩
      go_simp
      exact HK.out (upd us 31 (.int .i64 e1)) wx (by exact HJ.out.go HSTL (by kernel_rfl) 1 HF.out (by decide) (by decide) HP.out (Below.refl _ _) (.int .i64 e1) (rfl))
    · refine opAt rfl ?_
      intro l us wx hJ hp hl K hK
      have HJ := Lib.hid hJ; have HP := Lib.hid hp; have HLI := Lib.hid hl; have HF := Lib.hid (hJ.live hl (by decide)); have HBX := Lib.hid (hJ.below HF.out); have HK := hK
      clear hJ hp hl hK
      simp only [At, List.foldl_cons, List.foldl_nil, List.setIfInBounds_toArray, List.set_cons_zero, List.set_cons_succ] at HK
      have HK := Lib.hid HK
      simp only [At, List.foldl_cons, List.foldl_nil, List.setIfInBounds_toArray, List.set_cons_zero, List.set_cons_succ]
      refine ⟨?_⟩
      go_simp
      exact HK.out (upd us 32 (.int .i64 bad)) wx (by exact HJ.out.go HSTL (by kernel_rfl) 2 HF.out (by decide) (by decide) HP.out (Below.refl _ _) (.int .i64 bad) (rfl))
    · refine opAt rfl ?_
      intro l us wx hJ hp hl K hK
      have HJ := Lib.hid hJ; have HP := Lib.hid hp; have HLI := Lib.hid hl; have HF := Lib.hid (hJ.live hl (by decide)); have HBX := Lib.hid (hJ.below HF.out); have HK := hK
      clear hJ hp hl hK
      simp only [At, List.foldl_cons, List.foldl_nil, List.setIfInBounds_toArray, List.set_cons_zero, List.set_cons_succ] at HK
      have HK := Lib.hid HK
      simp only [At, List.foldl_cons, List.foldl_nil, List.setIfInBounds_toArray, List.set_cons_zero, List.set_cons_succ]
      refine ⟨?_⟩
      go_simp
      exact HK.out (upd us 33 (.int .i64 bad)) wx (by exact HJ.out.go HSTL (by kernel_rfl) 3 HF.out (by decide) (by decide) HP.out (Below.refl _ _) (.int .i64 bad) (rfl))
    · refine opAt rfl ?_
      intro l us wx hJ hp hl K hK
      have HJ := Lib.hid hJ; have HP := Lib.hid hp; have HLI := Lib.hid hl; have HF := Lib.hid (hJ.live hl (by decide)); have HBX := Lib.hid (hJ.below HF.out); have HK := hK
      clear hJ hp hl hK
      simp only [At, List.foldl_cons, List.foldl_nil, List.setIfInBounds_toArray, List.set_cons_zero, List.set_cons_succ] at HK
      have HK := Lib.hid HK
      simp only [At, List.foldl_cons, List.foldl_nil, List.setIfInBounds_toArray, List.set_cons_zero, List.set_cons_succ]
      refine ⟨?_⟩
      go_simp
      exact HK.out (upd us 34 (.func (.func 36) #[] #[.pointer (some ⟨w.heap.size, 0, none⟩), .pointer (some ⟨w.heap.size + 1, 0, none⟩)])) wx (by exact HJ.out.go HSTL (by kernel_rfl) 4 HF.out (by decide) (by decide) HP.out (Below.refl _ _) (.func (.func 36) #[] #[.pointer (some ⟨w.heap.size, 0, none⟩), .pointer (some ⟨w.heap.size + 1, 0, none⟩)]) (rfl))
    · refine opAt rfl ?_
      intro l us wx hJ hp hl K hK
      have HJ := Lib.hid hJ; have HP := Lib.hid hp; have HLI := Lib.hid hl; have HF := Lib.hid (hJ.live hl (by decide)); have HBX := Lib.hid (hJ.below HF.out); have HK := hK
      clear hJ hp hl hK
      simp only [At, List.foldl_cons, List.foldl_nil, List.setIfInBounds_toArray, List.set_cons_zero, List.set_cons_succ] at HK
      have HK := Lib.hid HK
      have h33 : us 33 = .int .i64 bad := HJ.out.val HF.out 3 (by decide) (HP.out 3 (by kernel_rfl))
      have h34 : us 34 = .func (.func 36) #[] #[.pointer (some ⟨w.heap.size, 0, none⟩), .pointer (some ⟨w.heap.size + 1, 0, none⟩)] := HJ.out.val HF.out 4 (by decide) (HP.out 4 (by kernel_rfl))
      have c0 := keep_cell HBX.out c0
      have c1 := keep_cell HBX.out c1
      have z0 := keep_cell HBX.out z0
      have z1 := keep_cell HBX.out z1
      simp only [At, List.foldl_cons, List.foldl_nil, List.setIfInBounds_toArray, List.set_cons_zero, List.set_cons_succ]
      refine ⟨?_⟩
      go_simp
      go_wp2_with ((go_at_call 22; (with_reducible refine (HNONE1.out _ c0 c1 z0 z1).mono ?_); rintro en w9 ⟨rfl, hbz⟩; have HC := Lib.hid hbz; clear hbz))
      exact HK.out (upd (upd (upd us 33 (.int .i64 bad)) 34 (.func (.func 36) #[] #[.pointer (some ⟨w.heap.size, 0, none⟩), .pointer (some ⟨w.heap.size + 1, 0, none⟩)])) 35 (.agg #[.int .i64 a1, .int .i64 b1, .bool k1])) w9 (by rw [upd_self h33, upd_self h34]; exact HJ.out.go HSTL (by kernel_rfl) 5 HF.out (by decide) (by decide) HP.out HC.out (.agg #[.int .i64 a1, .int .i64 b1, .bool k1]) (rfl))
    · refine opAt rfl ?_
      intro l us wx hJ hp hl K hK
      have HJ := Lib.hid hJ; have HP := Lib.hid hp; have HLI := Lib.hid hl; have HF := Lib.hid (hJ.live hl (by decide)); have HBX := Lib.hid (hJ.below HF.out); have HK := hK
      clear hJ hp hl hK
      simp only [At, List.foldl_cons, List.foldl_nil, List.setIfInBounds_toArray, List.set_cons_zero, List.set_cons_succ] at HK
      have HK := Lib.hid HK
      have h30 : us 30 = .agg #[.int .i64 x1, .int .i64 y1] := HJ.out.val HF.out 0 (by decide) (HP.out 0 (by kernel_rfl))
      have h31 : us 31 = .int .i64 e1 := HJ.out.val HF.out 1 (by decide) (HP.out 1 (by kernel_rfl))
      have h32 : us 32 = .int .i64 bad := HJ.out.val HF.out 2 (by decide) (HP.out 2 (by kernel_rfl))
      have h35 : us 35 = .agg #[.int .i64 a1, .int .i64 b1, .bool k1] := HJ.out.val HF.out 5 (by decide) (HP.out 5 (by kernel_rfl))
      simp only [At, List.foldl_cons, List.foldl_nil, List.setIfInBounds_toArray, List.set_cons_zero, List.set_cons_succ]
      refine ⟨?_⟩
      go_simp
      go_wp2_with ((go_at_call 21; (with_reducible refine (HAG1.out _).mono ?_); rintro en w9 ⟨rfl, hbz⟩; have HC := Lib.hid hbz; clear hbz))
      exact HK.out (upd (upd (upd (upd (upd us 30 (.agg #[.int .i64 x1, .int .i64 y1])) 31 (.int .i64 e1)) 32 (.int .i64 bad)) 35 (.agg #[.int .i64 a1, .int .i64 b1, .bool k1])) 36 (.bool true)) w9 (by rw [upd_self h30, upd_self h31, upd_self h32, upd_self h35]; exact HJ.out.go HSTL (by kernel_rfl) 6 HF.out (by decide) (by decide) HP.out HC.out (.bool true) (rfl))
    · refine opAt rfl ?_
      intro l us wx hJ hp hl K hK
      have HJ := Lib.hid hJ; have HP := Lib.hid hp; have HLI := Lib.hid hl; have HF := Lib.hid (hJ.live hl (by decide)); have HBX := Lib.hid (hJ.below HF.out); have HK := hK
      clear hJ hp hl hK
      simp only [At, List.foldl_cons, List.foldl_nil, List.setIfInBounds_toArray, List.set_cons_zero, List.set_cons_succ] at HK
      have HK := Lib.hid HK
      have h36 : us 36 = .bool true := HJ.out.val HF.out 6 (by decide) (HP.out 6 (by kernel_rfl))
      simp only [At, List.foldl_cons, List.foldl_nil, List.setIfInBounds_toArray, List.set_cons_zero, List.set_cons_succ]
      refine ⟨?_⟩
      go_simp
      exact HK.out (upd (upd us 36 (.bool true)) 37 (.bool false)) wx (by rw [upd_self h36]; exact HJ.out.go HSTL (by kernel_rfl) 7 HF.out (by decide) (by decide) HP.out (Below.refl _ _) (.bool false) (rfl))
    · refine opAt rfl ?_
      intro l us wx hJ hp hl K hK
      have HJ := Lib.hid hJ; have HP := Lib.hid hp; have HLI := Lib.hid hl; have HF := Lib.hid (hJ.live hl (by decide)); have HBX := Lib.hid (hJ.below HF.out); have HK := hK
      clear hJ hp hl hK
      simp only [At, List.foldl_cons, List.foldl_nil, List.setIfInBounds_toArray, List.set_cons_zero, List.set_cons_succ] at HK
      have HK := Lib.hid HK
      have h37 : us 37 = .bool false := HJ.out.val HF.out 7 (by decide) (HP.out 7 (by kernel_rfl))
      simp only [At, List.foldl_cons, List.foldl_nil, List.setIfInBounds_toArray, List.set_cons_zero, List.set_cons_succ]
      refine ⟨?_⟩
      go_simp
      exact HK.out (upd (upd us 37 (.bool false)) 38 (.bool false)) wx (by rw [upd_self h37]; exact HJ.out.go HSTL (by kernel_rfl) 8 HF.out (by decide) (by decide) HP.out (Below.refl _ _) (.bool false) (rfl))
    · refine opAt rfl ?_
      intro l us wx hJ hp hl K hK
      have HJ := Lib.hid hJ; have HP := Lib.hid hp; have HLI := Lib.hid hl; have HF := Lib.hid (hJ.live hl (by decide)); have HBX := Lib.hid (hJ.below HF.out); have HK := hK
      clear hJ hp hl hK
      simp only [At, List.foldl_cons, List.foldl_nil, List.setIfInBounds_toArray, List.set_cons_zero, List.set_cons_succ] at HK
      have HK := Lib.hid HK
      have h38 : us 38 = .bool false := HJ.out.val HF.out 8 (by decide) (HP.out 8 (by kernel_rfl))
      have s0 := keep_cell HBX.out s0
      have s1 := keep_cell HBX.out s1
      simp only [At, List.foldl_cons, List.foldl_nil, List.setIfInBounds_toArray, List.set_cons_zero, List.set_cons_succ]
      refine ⟨?_⟩
      go_simp
      exact HK.out (upd (upd us 38 (.bool false)) 39 (.agg #[.int .i64 x2, .int .i64 y2])) wx (by rw [upd_self h38]; exact HJ.out.go HSTL (by kernel_rfl) 9 HF.out (by decide) (by decide) HP.out (Below.refl _ _) (.agg #[.int .i64 x2, .int .i64 y2]) (rfl))
    · refine opAt rfl ?_
      intro l us wx hJ hp hl K hK
      have HJ := Lib.hid hJ; have HP := Lib.hid hp; have HLI := Lib.hid hl; have HF := Lib.hid (hJ.live hl (by decide)); have HBX := Lib.hid (hJ.below HF.out); have HK := hK
      clear hJ hp hl hK
      simp only [At, List.foldl_cons, List.foldl_nil, List.setIfInBounds_toArray, List.set_cons_zero, List.set_cons_succ] at HK
      have HK := Lib.hid HK
      have h38 : us 38 = .bool false := HJ.out.val HF.out 8 (by decide) (HP.out 8 (by kernel_rfl))
      simp only [At, List.foldl_cons, List.foldl_nil, List.setIfInBounds_toArray, List.set_cons_zero, List.set_cons_succ]
      refine ⟨?_⟩
      go_simp
      exact HK.out (upd (upd us 38 (.bool false)) 40 (.int .i64 e2)) wx (by rw [upd_self h38]; exact HJ.out.go HSTL (by kernel_rfl) 10 HF.out (by decide) (by decide) HP.out (Below.refl _ _) (.int .i64 e2) (rfl))
    · refine opAt rfl ?_
      intro l us wx hJ hp hl K hK
      have HJ := Lib.hid hJ; have HP := Lib.hid hp; have HLI := Lib.hid hl; have HF := Lib.hid (hJ.live hl (by decide)); have HBX := Lib.hid (hJ.below HF.out); have HK := hK
      clear hJ hp hl hK
      simp only [At, List.foldl_cons, List.foldl_nil, List.setIfInBounds_toArray, List.set_cons_zero, List.set_cons_succ] at HK
      have HK := Lib.hid HK
      have h38 : us 38 = .bool false := HJ.out.val HF.out 8 (by decide) (HP.out 8 (by kernel_rfl))
      simp only [At, List.foldl_cons, List.foldl_nil, List.setIfInBounds_toArray, List.set_cons_zero, List.set_cons_succ]
      refine ⟨?_⟩
      go_simp
      exact HK.out (upd (upd us 38 (.bool false)) 41 (.int .i64 bad)) wx (by rw [upd_self h38]; exact HJ.out.go HSTL (by kernel_rfl) 11 HF.out (by decide) (by decide) HP.out (Below.refl _ _) (.int .i64 bad) (rfl))
    · refine opAt rfl ?_
      intro l us wx hJ hp hl K hK
      have HJ := Lib.hid hJ; have HP := Lib.hid hp; have HLI := Lib.hid hl; have HF := Lib.hid (hJ.live hl (by decide)); have HBX := Lib.hid (hJ.below HF.out); have HK := hK
      clear hJ hp hl hK
      simp only [At, List.foldl_cons, List.foldl_nil, List.setIfInBounds_toArray, List.set_cons_zero, List.set_cons_succ] at HK
      have HK := Lib.hid HK
      have h38 : us 38 = .bool false := HJ.out.val HF.out 8 (by decide) (HP.out 8 (by kernel_rfl))
      simp only [At, List.foldl_cons, List.foldl_nil, List.setIfInBounds_toArray, List.set_cons_zero, List.set_cons_succ]
      refine ⟨?_⟩
      go_simp
      exact HK.out (upd (upd us 38 (.bool false)) 42 (.int .i64 bad)) wx (by rw [upd_self h38]; exact HJ.out.go HSTL (by kernel_rfl) 12 HF.out (by decide) (by decide) HP.out (Below.refl _ _) (.int .i64 bad) (rfl))
    · refine opAt rfl ?_
      intro l us wx hJ hp hl K hK
      have HJ := Lib.hid hJ; have HP := Lib.hid hp; have HLI := Lib.hid hl; have HF := Lib.hid (hJ.live hl (by decide)); have HBX := Lib.hid (hJ.below HF.out); have HK := hK
      clear hJ hp hl hK
      simp only [At, List.foldl_cons, List.foldl_nil, List.setIfInBounds_toArray, List.set_cons_zero, List.set_cons_succ] at HK
      have HK := Lib.hid HK
      have h38 : us 38 = .bool false := HJ.out.val HF.out 8 (by decide) (HP.out 8 (by kernel_rfl))
      simp only [At, List.foldl_cons, List.foldl_nil, List.setIfInBounds_toArray, List.set_cons_zero, List.set_cons_succ]
      refine ⟨?_⟩
      go_simp
      exact HK.out (upd (upd us 38 (.bool false)) 43 (.func (.func 38) #[] #[.pointer (some ⟨w.heap.size, 0, none⟩), .pointer (some ⟨w.heap.size + 1, 0, none⟩)])) wx (by rw [upd_self h38]; exact HJ.out.go HSTL (by kernel_rfl) 13 HF.out (by decide) (by decide) HP.out (Below.refl _ _) (.func (.func 38) #[] #[.pointer (some ⟨w.heap.size, 0, none⟩), .pointer (some ⟨w.heap.size + 1, 0, none⟩)]) (rfl))
    · refine opAt rfl ?_
      intro l us wx hJ hp hl K hK
      have HJ := Lib.hid hJ; have HP := Lib.hid hp; have HLI := Lib.hid hl; have HF := Lib.hid (hJ.live hl (by decide)); have HBX := Lib.hid (hJ.below HF.out); have HK := hK
      clear hJ hp hl hK
      simp only [At, List.foldl_cons, List.foldl_nil, List.setIfInBounds_toArray, List.set_cons_zero, List.set_cons_succ] at HK
      have HK := Lib.hid HK
      have h38 : us 38 = .bool false := HJ.out.val HF.out 8 (by decide) (HP.out 8 (by kernel_rfl))
      have h42 : us 42 = .int .i64 bad := HJ.out.val HF.out 12 (by decide) (HP.out 12 (by kernel_rfl))
      have h43 : us 43 = .func (.func 38) #[] #[.pointer (some ⟨w.heap.size, 0, none⟩), .pointer (some ⟨w.heap.size + 1, 0, none⟩)] := HJ.out.val HF.out 13 (by decide) (HP.out 13 (by kernel_rfl))
      have c0 := keep_cell HBX.out c0
      have c1 := keep_cell HBX.out c1
      have z0 := keep_cell HBX.out z0
      have z1 := keep_cell HBX.out z1
      simp only [At, List.foldl_cons, List.foldl_nil, List.setIfInBounds_toArray, List.set_cons_zero, List.set_cons_succ]
      refine ⟨?_⟩
      go_simp
      go_wp2_with ((go_at_call 22; (with_reducible refine (HNONE2.out _ c0 c1 z0 z1).mono ?_); rintro en w9 ⟨rfl, hbz⟩; have HC := Lib.hid hbz; clear hbz))
      exact HK.out (upd (upd (upd (upd us 38 (.bool false)) 42 (.int .i64 bad)) 43 (.func (.func 38) #[] #[.pointer (some ⟨w.heap.size, 0, none⟩), .pointer (some ⟨w.heap.size + 1, 0, none⟩)])) 44 (.agg #[.int .i64 a2, .int .i64 b2, .bool k2])) w9 (by rw [upd_self h38, upd_self h42, upd_self h43]; exact HJ.out.go HSTL (by kernel_rfl) 14 HF.out (by decide) (by decide) HP.out HC.out (.agg #[.int .i64 a2, .int .i64 b2, .bool k2]) (rfl))
    · refine opAt rfl ?_
      intro l us wx hJ hp hl K hK
      have HJ := Lib.hid hJ; have HP := Lib.hid hp; have HLI := Lib.hid hl; have HF := Lib.hid (hJ.live hl (by decide)); have HBX := Lib.hid (hJ.below HF.out); have HK := hK
      clear hJ hp hl hK
      simp only [At, List.foldl_cons, List.foldl_nil, List.setIfInBounds_toArray, List.set_cons_zero, List.set_cons_succ] at HK
      have HK := Lib.hid HK
      have h38 : us 38 = .bool false := HJ.out.val HF.out 8 (by decide) (HP.out 8 (by kernel_rfl))
      have h39 : us 39 = .agg #[.int .i64 x2, .int .i64 y2] := HJ.out.val HF.out 9 (by decide) (HP.out 9 (by kernel_rfl))
      have h40 : us 40 = .int .i64 e2 := HJ.out.val HF.out 10 (by decide) (HP.out 10 (by kernel_rfl))
      have h41 : us 41 = .int .i64 bad := HJ.out.val HF.out 11 (by decide) (HP.out 11 (by kernel_rfl))
      have h44 : us 44 = .agg #[.int .i64 a2, .int .i64 b2, .bool k2] := HJ.out.val HF.out 14 (by decide) (HP.out 14 (by kernel_rfl))
      simp only [At, List.foldl_cons, List.foldl_nil, List.setIfInBounds_toArray, List.set_cons_zero, List.set_cons_succ]
      refine ⟨?_⟩
      go_simp
      go_wp2_with ((go_at_call 21; (with_reducible refine (HAG2.out _).mono ?_); rintro en w9 ⟨rfl, hbz⟩; have HC := Lib.hid hbz; clear hbz))
      exact HK.out (upd (upd (upd (upd (upd (upd us 38 (.bool false)) 39 (.agg #[.int .i64 x2, .int .i64 y2])) 40 (.int .i64 e2)) 41 (.int .i64 bad)) 44 (.agg #[.int .i64 a2, .int .i64 b2, .bool k2])) 45 (.bool true)) w9 (by rw [upd_self h38, upd_self h39, upd_self h40, upd_self h41, upd_self h44]; exact HJ.out.go HSTL (by kernel_rfl) 15 HF.out (by decide) (by decide) HP.out HC.out (.bool true) (rfl))
    · refine opAt rfl ?_
      intro l us wx hJ hp hl K hK
      have HJ := Lib.hid hJ; have HP := Lib.hid hp; have HLI := Lib.hid hl; have HF := Lib.hid (hJ.live hl (by decide)); have HBX := Lib.hid (hJ.below HF.out); have HK := hK
      clear hJ hp hl hK
      simp only [At, List.foldl_cons, List.foldl_nil, List.setIfInBounds_toArray, List.set_cons_zero, List.set_cons_succ] at HK
      have HK := Lib.hid HK
      have h38 : us 38 = .bool false := HJ.out.val HF.out 8 (by decide) (HP.out 8 (by kernel_rfl))
      have h45 : us 45 = .bool true := HJ.out.val HF.out 15 (by decide) (HP.out 15 (by kernel_rfl))
      simp only [At, List.foldl_cons, List.foldl_nil, List.setIfInBounds_toArray, List.set_cons_zero, List.set_cons_succ]
      refine ⟨?_⟩
      go_simp
      exact HK.out (upd (upd (upd us 38 (.bool false)) 45 (.bool true)) 46 (.bool false)) wx (by rw [upd_self h38, upd_self h45]; exact HJ.out.go HSTL (by kernel_rfl) 16 HF.out (by decide) (by decide) HP.out (Below.refl _ _) (.bool false) (rfl))
    · refine opAt rfl ?_
      intro l us wx hJ hp hl K hK
      have HJ := Lib.hid hJ; have HP := Lib.hid hp; have HLI := Lib.hid hl; have HF := Lib.hid (hJ.live hl (by decide)); have HBX := Lib.hid (hJ.below HF.out); have HK := hK
      clear hJ hp hl hK
      simp only [At, List.foldl_cons, List.foldl_nil, List.setIfInBounds_toArray, List.set_cons_zero, List.set_cons_succ] at HK
      have HK := Lib.hid HK
      have h38 : us 38 = .bool false := HJ.out.val HF.out 8 (by decide) (HP.out 8 (by kernel_rfl))
      have h46 : us 46 = .bool false := HJ.out.val HF.out 16 (by decide) (HP.out 16 (by kernel_rfl))
      simp only [At, List.foldl_cons, List.foldl_nil, List.setIfInBounds_toArray, List.set_cons_zero, List.set_cons_succ]
      refine ⟨?_⟩
      go_simp
      exact HK.out (upd (upd (upd us 38 (.bool false)) 46 (.bool false)) 47 (.bool false)) wx (by rw [upd_self h38, upd_self h46]; exact HJ.out.go HSTL (by kernel_rfl) 17 HF.out (by decide) (by decide) HP.out (Below.refl _ _) (.bool false) (rfl))
  obtain ⟨rfl, HBC⟩ := hcut
  obtain ⟨T, hT⟩ : ∃ T, wc = T := ⟨_, rfl⟩
  rw [hT] at HBC ⊢
  clear hT
  have l0 := keep_cell HBC.out l0
  have HB := Lib.hid (belowT HBZ.out HBC.out)
  have HRT := Lib.hid (HR.out.below HB.out)
  have HTT := Lib.hid (HT.out.below HB.out)
  have HBT := Lib.hid (belowT HBEL.out HB.out)
  clear HBZ HBC HR HT HBEL HB HM HD HARG HAG1 HAG2 HNONE1 HNONE2 q0 q1 s0 s1 c0 c1 z0 z1
  by_cases h60 : (60 : Int) < (n : Int)
  · by_cases h1000 : (n : Int) ≤ 1000
    · go_wp2_with (go_at_call 25; (with_reducible refine (HSAN.out _ HTT.out).mono ?_); rintro en w5 ⟨rfl, hbz⟩; have HB := Lib.hid hbz; clear hbz)
      go_ret
      exact ⟨rfl, belowT HBT.out HB.out⟩
    · have h1001 : (1000 : Int) < (n : Int) := by omega
      have hs : sumX l = .tuple #[.agg #[.int .i64 0, .int .i64 0], .int .i64 2] := by unfold sumX; rw [if_pos (by have := HN.out; omega)]
      rw [hs] at HSUM
      clear hs
      go_wp2_with (first
        | (go_at_call 40; (with_reducible refine (HSUM.out _ HRT.out).mono ?_); rintro en w5 ⟨rfl, hbz⟩; have HB := Lib.hid hbz; have l0 := keep_cell hbz l0; have Al0 := fun o => keep_cell ((Below.refl _ _).alloc (Nat.le_refl _) o) l0; clear hbz)
        | (go_at_call 25; (with_reducible refine (HSAN.out _ (HTT.out.below (belowA HB.out _))).mono ?_); rintro en w6 ⟨rfl, hbz⟩; obtain ⟨r0, r1⟩ := two_cells (heapB hbz (heap_alloc_new _ _)); have HB := Lib.hid (belowT (belowA HB.out _) hbz); clear hbz))
      go_ret
      exact ⟨rfl, belowT HBT.out HB.out⟩
  have h61 : ¬ (1000 : Int) < (n : Int) := by omega
  obtain ⟨x3, y3, e3, a3, b3, k3, hst3, hok3, hno3, hag3⟩ := sum_agr l (by have := HN.out; omega)
  rw [hst3] at HSUM
  have HAG3 := Lib.hid (fun w' => agrees_c _ _ _ _ _ _ _ w' hag3)
  have HNONE3 : Hid (∀ w' : World, Reals w' A l → w'.cell? ⟨w.heap.size + 2, 0, none⟩ = some (.slice A n c) → Calls Tryz.prog 22 #[.int .i64 (badL l), .func (.func 41) #[] #[.pointer (some ⟨w.heap.size + 2, 0, none⟩)]] w' fun en w2 => en = .returned (.agg #[.int .i64 a3, .int .i64 b3, .bool k3]) ∧ Below w'.heap.size w' w2) := by
    intro w' e0 e1
    by_cases h : badL l = 0
    · have hr := hok3 h
      have h1 := badL_ok h
      rw [h]
      exact none_ok _ _ a3 b3 k3 w' (enters_of Tryz.func41 (by kernel_rfl) rfl) fun w2 hb => sums3_c _ A n c l a3 b3 k3 w2 HN.out (e0.below hb) h1 (by omega) hr (keep_cell hb e1)
    · obtain ⟨rfl, rfl, rfl⟩ := hno3 h
      exact none_bad _ _ w' h
  clear hst3 hok3 hno3 hag3
  go_wp2_with (go_at_call 40; (with_reducible refine (HSUM.out _ HRT.out).mono ?_); rintro en w5 ⟨rfl, hbz⟩; have HB := Lib.hid hbz; have l0 := keep_cell hbz l0; have Al0 := fun o => keep_cell ((Below.refl _ _).alloc (Nat.le_refl _) o) l0; clear hbz)
  have HL5 := Lib.hid l0
  have HBT := Lib.hid (belowT HBT.out HB.out)
  have HR5 := Lib.hid (HRT.out.below HB.out)
  have HT5 := Lib.hid (HTT.out.below HB.out)
  clear HB l0 Al0 HRT HTT HSUM
  go_loopg [11, 14] n (fun g bv iv wr => ∃ k : Nat, iv = .int .i64 (k : Int) ∧ k + g = n ∧ bv = .int .i64 (badL (l.take k)) ∧ Hid (wr.heap[w5.heap.size]? = some (.cells #[.int .i64 x3, .int .i64 y3] 23 (0, 0))) ∧ Hid (Below w5.heap.size w5 wr))
  case atStart => exact ⟨0, rfl, by omega, rfl, heap_alloc_new _ _, (Below.refl _ _).alloc (Nat.le_refl _) _⟩
  case round =>
    obtain ⟨k, rfl, hkg, rfl, HX, HB⟩ := hrel
    have l0 := keep_cell HB.out HL5.out
    by_cases hg : gk = 0
    · obtain rfl : k = n := by omega
      obtain ⟨r0, r1⟩ := two_cells HX.out
      rw [List.take_of_length_le (by rw [HN.out]; exact Nat.le_refl _)]
      obtain ⟨badl, hbl⟩ : ∃ b, badL l = b := ⟨_, rfl⟩
      rw [hbl] at HAG3 HNONE3 ⊢
      have HRR := Lib.hid (HR5.out.below HB.out)
      have HTR := Lib.hid (HT5.out.below HB.out)
      have HBR := Lib.hid (belowT HBT.out HB.out)
      obtain ⟨T2, hT2⟩ : ∃ T, wr = T := ⟨_, rfl⟩
      rw [hT2] at HX HB l0 r0 r1 HRR HTR HBR ⊢
      clear hbl hT2 hg hkg HB
      go_upto_region 17 with fail
      go_cut [6] from 87 to 96 (fun v wx => v = .bool true ∧ Hid (Below T2.heap.size T2 wx))
      case first =>
        have HSTL : StableL [(fun _ v => v = .bool true), (fun _ v => v = .bool true), (fun _ v => v = .agg #[.int .i64 x3, .int .i64 y3]), (fun _ v => v = .int .i64 e3), (fun _ v => v = .int .i64 badl), (fun _ v => v = .int .i64 badl), (fun _ v => v = .func (.func 41) #[] #[.pointer (some ⟨w.heap.size + 2, 0, none⟩)]), (fun _ v => v = .agg #[.int .i64 a3, .int .i64 b3, .bool k3]), (fun _ v => v = .bool true), (fun _ v => v = .bool true), (fun _ v => v = .bool true)] := ⟨(fun _ _ _ _ h => h), (fun _ _ _ _ h => h), (fun _ _ _ _ h => h), (fun _ _ _ _ h => h), (fun _ _ _ _ h => h), (fun _ _ _ _ h => h), (fun _ _ _ _ h => h), (fun _ _ _ _ h => h), (fun _ _ _ _ h => h), (fun _ _ _ _ h => h), (fun _ _ _ _ h => h), trivial⟩
        refine wp_region_p [87, 88, 89, 90, 91, 92, 93, 94, 95, 96, 6] [87, 88, 89, 90, 91, 92, 93, 94, 95, 96, 6] [(fun _ v => v = .bool true), (fun _ v => v = .bool true), (fun _ v => v = .agg #[.int .i64 x3, .int .i64 y3]), (fun _ v => v = .int .i64 e3), (fun _ v => v = .int .i64 badl), (fun _ v => v = .int .i64 badl), (fun _ v => v = .func (.func 41) #[] #[.pointer (some ⟨w.heap.size + 2, 0, none⟩)]), (fun _ v => v = .agg #[.int .i64 a3, .int .i64 b3, .bool k3]), (fun _ v => v = .bool true), (fun _ v => v = .bool true), (fun _ v => v = .bool true)] 11 (fun _ _ => True) 11 rfl (by kernel_rfl) (by kernel_rfl) ?_ ⟨?_, ?_, ?_, ?_, ?_, ?_, ?_, ?_, ?_, ?_, ?_, trivial⟩
        · intro l us wx hl hJ
          have HNF := hJ.nofin (by kernel_rfl)
          have HB := Lib.hid (hJ.below HNF)
          have h6 : us 6 = .bool true := hJ.val HNF 10 (by decide) (hl 10 (by decide))
          clear hl hJ
          simp only [At, List.foldl_cons, List.foldl_nil, List.setIfInBounds_toArray, List.set_cons_zero, List.set_cons_succ]
          go_wp2_with fail
          go_meet
          exact ⟨by first | rfl | assumption, HB⟩
        · refine opAt rfl ?_
          intro l us wx hJ hp hl K hK
          have HJ := Lib.hid hJ; have HP := Lib.hid hp; have HLI := Lib.hid hl; have HF := Lib.hid (hJ.live hl (by decide)); have HBX := Lib.hid (hJ.below HF.out); have HK := hK
          clear hJ hp hl hK
          simp only [At, List.foldl_cons, List.foldl_nil, List.setIfInBounds_toArray, List.set_cons_zero, List.set_cons_succ] at HK
          have HK := Lib.hid HK
          simp only [At, List.foldl_cons, List.foldl_nil, List.setIfInBounds_toArray, List.set_cons_zero, List.set_cons_succ]
          refine ⟨?_⟩
          go_simp
          go_wp2_with ((go_at_call 25; (with_reducible refine (HSAN.out _ (HTR.out.below HBX.out)).mono ?_); rintro en w9 ⟨rfl, hbz⟩; have HC := Lib.hid hbz; clear hbz))
          exact HK.out (upd us 87 (.bool true)) w9 (by exact HJ.out.go HSTL (by kernel_rfl) 0 HF.out (by decide) (by decide) HP.out HC.out (.bool true) (rfl))
        · refine opAt rfl ?_
          intro l us wx hJ hp hl K hK
          have HJ := Lib.hid hJ; have HP := Lib.hid hp; have HLI := Lib.hid hl; have HF := Lib.hid (hJ.live hl (by decide)); have HBX := Lib.hid (hJ.below HF.out); have HK := hK
          clear hJ hp hl hK
          simp only [At, List.foldl_cons, List.foldl_nil, List.setIfInBounds_toArray, List.set_cons_zero, List.set_cons_succ] at HK
          have HK := Lib.hid HK
          have h87 : us 87 = .bool true := HJ.out.val HF.out 0 (by decide) (HP.out 0 (by kernel_rfl))
          simp only [At, List.foldl_cons, List.foldl_nil, List.setIfInBounds_toArray, List.set_cons_zero, List.set_cons_succ]
          refine ⟨?_⟩
          go_simp
          exact HK.out (upd (upd us 87 (.bool true)) 88 (.bool true)) wx (by rw [upd_self h87]; exact HJ.out.go HSTL (by kernel_rfl) 1 HF.out (by decide) (by decide) HP.out (Below.refl _ _) (.bool true) (rfl))
        · refine opAt rfl ?_
          intro l us wx hJ hp hl K hK
          have HJ := Lib.hid hJ; have HP := Lib.hid hp; have HLI := Lib.hid hl; have HF := Lib.hid (hJ.live hl (by decide)); have HBX := Lib.hid (hJ.below HF.out); have HK := hK
          clear hJ hp hl hK
          simp only [At, List.foldl_cons, List.foldl_nil, List.setIfInBounds_toArray, List.set_cons_zero, List.set_cons_succ] at HK
          have HK := Lib.hid HK
          have h88 : us 88 = .bool true := HJ.out.val HF.out 1 (by decide) (HP.out 1 (by kernel_rfl))
          have r0 := keep_cell HBX.out r0
          have r1 := keep_cell HBX.out r1
          simp only [At, List.foldl_cons, List.foldl_nil, List.setIfInBounds_toArray, List.set_cons_zero, List.set_cons_succ]
          refine ⟨?_⟩
          go_simp
          exact HK.out (upd (upd us 88 (.bool true)) 89 (.agg #[.int .i64 x3, .int .i64 y3])) wx (by rw [upd_self h88]; exact HJ.out.go HSTL (by kernel_rfl) 2 HF.out (by decide) (by decide) HP.out (Below.refl _ _) (.agg #[.int .i64 x3, .int .i64 y3]) (rfl))
        · refine opAt rfl ?_
          intro l us wx hJ hp hl K hK
          have HJ := Lib.hid hJ; have HP := Lib.hid hp; have HLI := Lib.hid hl; have HF := Lib.hid (hJ.live hl (by decide)); have HBX := Lib.hid (hJ.below HF.out); have HK := hK
          clear hJ hp hl hK
          simp only [At, List.foldl_cons, List.foldl_nil, List.setIfInBounds_toArray, List.set_cons_zero, List.set_cons_succ] at HK
          have HK := Lib.hid HK
          have h88 : us 88 = .bool true := HJ.out.val HF.out 1 (by decide) (HP.out 1 (by kernel_rfl))
          simp only [At, List.foldl_cons, List.foldl_nil, List.setIfInBounds_toArray, List.set_cons_zero, List.set_cons_succ]
          refine ⟨?_⟩
          go_simp
          exact HK.out (upd (upd us 88 (.bool true)) 90 (.int .i64 e3)) wx (by rw [upd_self h88]; exact HJ.out.go HSTL (by kernel_rfl) 3 HF.out (by decide) (by decide) HP.out (Below.refl _ _) (.int .i64 e3) (rfl))
        · refine opAt rfl ?_
          intro l us wx hJ hp hl K hK
          have HJ := Lib.hid hJ; have HP := Lib.hid hp; have HLI := Lib.hid hl; have HF := Lib.hid (hJ.live hl (by decide)); have HBX := Lib.hid (hJ.below HF.out); have HK := hK
          clear hJ hp hl hK
          simp only [At, List.foldl_cons, List.foldl_nil, List.setIfInBounds_toArray, List.set_cons_zero, List.set_cons_succ] at HK
          have HK := Lib.hid HK
          have h88 : us 88 = .bool true := HJ.out.val HF.out 1 (by decide) (HP.out 1 (by kernel_rfl))
          simp only [At, List.foldl_cons, List.foldl_nil, List.setIfInBounds_toArray, List.set_cons_zero, List.set_cons_succ]
          refine ⟨?_⟩
          go_simp
          exact HK.out (upd (upd us 88 (.bool true)) 91 (.int .i64 badl)) wx (by rw [upd_self h88]; exact HJ.out.go HSTL (by kernel_rfl) 4 HF.out (by decide) (by decide) HP.out (Below.refl _ _) (.int .i64 badl) (rfl))
        · refine opAt rfl ?_
          intro l us wx hJ hp hl K hK
          have HJ := Lib.hid hJ; have HP := Lib.hid hp; have HLI := Lib.hid hl; have HF := Lib.hid (hJ.live hl (by decide)); have HBX := Lib.hid (hJ.below HF.out); have HK := hK
          clear hJ hp hl hK
          simp only [At, List.foldl_cons, List.foldl_nil, List.setIfInBounds_toArray, List.set_cons_zero, List.set_cons_succ] at HK
          have HK := Lib.hid HK
          have h88 : us 88 = .bool true := HJ.out.val HF.out 1 (by decide) (HP.out 1 (by kernel_rfl))
          simp only [At, List.foldl_cons, List.foldl_nil, List.setIfInBounds_toArray, List.set_cons_zero, List.set_cons_succ]
          refine ⟨?_⟩
          go_simp
          exact HK.out (upd (upd us 88 (.bool true)) 92 (.int .i64 badl)) wx (by rw [upd_self h88]; exact HJ.out.go HSTL (by kernel_rfl) 5 HF.out (by decide) (by decide) HP.out (Below.refl _ _) (.int .i64 badl) (rfl))
        · refine opAt rfl ?_
          intro l us wx hJ hp hl K hK
          have HJ := Lib.hid hJ; have HP := Lib.hid hp; have HLI := Lib.hid hl; have HF := Lib.hid (hJ.live hl (by decide)); have HBX := Lib.hid (hJ.below HF.out); have HK := hK
          clear hJ hp hl hK
          simp only [At, List.foldl_cons, List.foldl_nil, List.setIfInBounds_toArray, List.set_cons_zero, List.set_cons_succ] at HK
          have HK := Lib.hid HK
          have h88 : us 88 = .bool true := HJ.out.val HF.out 1 (by decide) (HP.out 1 (by kernel_rfl))
          simp only [At, List.foldl_cons, List.foldl_nil, List.setIfInBounds_toArray, List.set_cons_zero, List.set_cons_succ]
          refine ⟨?_⟩
          go_simp
          exact HK.out (upd (upd us 88 (.bool true)) 93 (.func (.func 41) #[] #[.pointer (some ⟨w.heap.size + 2, 0, none⟩)])) wx (by rw [upd_self h88]; exact HJ.out.go HSTL (by kernel_rfl) 6 HF.out (by decide) (by decide) HP.out (Below.refl _ _) (.func (.func 41) #[] #[.pointer (some ⟨w.heap.size + 2, 0, none⟩)]) (rfl))
        · refine opAt rfl ?_
          intro l us wx hJ hp hl K hK
          have HJ := Lib.hid hJ; have HP := Lib.hid hp; have HLI := Lib.hid hl; have HF := Lib.hid (hJ.live hl (by decide)); have HBX := Lib.hid (hJ.below HF.out); have HK := hK
          clear hJ hp hl hK
          simp only [At, List.foldl_cons, List.foldl_nil, List.setIfInBounds_toArray, List.set_cons_zero, List.set_cons_succ] at HK
          have HK := Lib.hid HK
          have h88 : us 88 = .bool true := HJ.out.val HF.out 1 (by decide) (HP.out 1 (by kernel_rfl))
          have h92 : us 92 = .int .i64 badl := HJ.out.val HF.out 5 (by decide) (HP.out 5 (by kernel_rfl))
          have h93 : us 93 = .func (.func 41) #[] #[.pointer (some ⟨w.heap.size + 2, 0, none⟩)] := HJ.out.val HF.out 6 (by decide) (HP.out 6 (by kernel_rfl))
          have l0 := keep_cell HBX.out l0
          have hr9 := HRR.out.below HBX.out
          simp only [At, List.foldl_cons, List.foldl_nil, List.setIfInBounds_toArray, List.set_cons_zero, List.set_cons_succ]
          refine ⟨?_⟩
          go_simp
          go_wp2_with ((go_at_call 22; (with_reducible refine (HNONE3.out _ hr9 l0).mono ?_); rintro en w9 ⟨rfl, hbz⟩; have HC := Lib.hid hbz; clear hbz))
          exact HK.out (upd (upd (upd (upd us 88 (.bool true)) 92 (.int .i64 badl)) 93 (.func (.func 41) #[] #[.pointer (some ⟨w.heap.size + 2, 0, none⟩)])) 94 (.agg #[.int .i64 a3, .int .i64 b3, .bool k3])) w9 (by rw [upd_self h88, upd_self h92, upd_self h93]; exact HJ.out.go HSTL (by kernel_rfl) 7 HF.out (by decide) (by decide) HP.out HC.out (.agg #[.int .i64 a3, .int .i64 b3, .bool k3]) (rfl))
        · refine opAt rfl ?_
          intro l us wx hJ hp hl K hK
          have HJ := Lib.hid hJ; have HP := Lib.hid hp; have HLI := Lib.hid hl; have HF := Lib.hid (hJ.live hl (by decide)); have HBX := Lib.hid (hJ.below HF.out); have HK := hK
          clear hJ hp hl hK
          simp only [At, List.foldl_cons, List.foldl_nil, List.setIfInBounds_toArray, List.set_cons_zero, List.set_cons_succ] at HK
          have HK := Lib.hid HK
          have h88 : us 88 = .bool true := HJ.out.val HF.out 1 (by decide) (HP.out 1 (by kernel_rfl))
          have h89 : us 89 = .agg #[.int .i64 x3, .int .i64 y3] := HJ.out.val HF.out 2 (by decide) (HP.out 2 (by kernel_rfl))
          have h90 : us 90 = .int .i64 e3 := HJ.out.val HF.out 3 (by decide) (HP.out 3 (by kernel_rfl))
          have h91 : us 91 = .int .i64 badl := HJ.out.val HF.out 4 (by decide) (HP.out 4 (by kernel_rfl))
          have h94 : us 94 = .agg #[.int .i64 a3, .int .i64 b3, .bool k3] := HJ.out.val HF.out 7 (by decide) (HP.out 7 (by kernel_rfl))
          simp only [At, List.foldl_cons, List.foldl_nil, List.setIfInBounds_toArray, List.set_cons_zero, List.set_cons_succ]
          refine ⟨?_⟩
          go_simp
          go_wp2_with ((go_at_call 21; (with_reducible refine (HAG3.out _).mono ?_); rintro en w9 ⟨rfl, hbz⟩; have HC := Lib.hid hbz; clear hbz))
          exact HK.out (upd (upd (upd (upd (upd (upd us 88 (.bool true)) 89 (.agg #[.int .i64 x3, .int .i64 y3])) 90 (.int .i64 e3)) 91 (.int .i64 badl)) 94 (.agg #[.int .i64 a3, .int .i64 b3, .bool k3])) 95 (.bool true)) w9 (by rw [upd_self h88, upd_self h89, upd_self h90, upd_self h91, upd_self h94]; exact HJ.out.go HSTL (by kernel_rfl) 8 HF.out (by decide) (by decide) HP.out HC.out (.bool true) (rfl))
        · refine opAt rfl ?_
          intro l us wx hJ hp hl K hK
          have HJ := Lib.hid hJ; have HP := Lib.hid hp; have HLI := Lib.hid hl; have HF := Lib.hid (hJ.live hl (by decide)); have HBX := Lib.hid (hJ.below HF.out); have HK := hK
          clear hJ hp hl hK
          simp only [At, List.foldl_cons, List.foldl_nil, List.setIfInBounds_toArray, List.set_cons_zero, List.set_cons_succ] at HK
          have HK := Lib.hid HK
          have h88 : us 88 = .bool true := HJ.out.val HF.out 1 (by decide) (HP.out 1 (by kernel_rfl))
          have h95 : us 95 = .bool true := HJ.out.val HF.out 8 (by decide) (HP.out 8 (by kernel_rfl))
          simp only [At, List.foldl_cons, List.foldl_nil, List.setIfInBounds_toArray, List.set_cons_zero, List.set_cons_succ]
          refine ⟨?_⟩
          go_simp
          exact HK.out (upd (upd (upd us 88 (.bool true)) 95 (.bool true)) 96 (.bool true)) wx (by rw [upd_self h88, upd_self h95]; exact HJ.out.go HSTL (by kernel_rfl) 9 HF.out (by decide) (by decide) HP.out (Below.refl _ _) (.bool true) (rfl))
        · refine opAt rfl ?_
          intro l us wx hJ hp hl K hK
          have HJ := Lib.hid hJ; have HP := Lib.hid hp; have HLI := Lib.hid hl; have HF := Lib.hid (hJ.live hl (by decide)); have HBX := Lib.hid (hJ.below HF.out); have HK := hK
          clear hJ hp hl hK
          simp only [At, List.foldl_cons, List.foldl_nil, List.setIfInBounds_toArray, List.set_cons_zero, List.set_cons_succ] at HK
          have HK := Lib.hid HK
          have h96 : us 96 = .bool true := HJ.out.val HF.out 9 (by decide) (HP.out 9 (by kernel_rfl))
          simp only [At, List.foldl_cons, List.foldl_nil, List.setIfInBounds_toArray, List.set_cons_zero, List.set_cons_succ]
          refine ⟨?_⟩
          go_simp
          exact HK.out (upd (upd us 96 (.bool true)) 6 (.bool true)) wx (by rw [upd_self h96]; exact HJ.out.go HSTL (by kernel_rfl) 10 HF.out (by decide) (by decide) HP.out (Below.refl _ _) (.bool true) (rfl))
      obtain ⟨rfl, HBC⟩ := hcut
      go_wp2_with fail
      go_ret
      exact ⟨rfl, belowT HBR.out HBC.out⟩
    · obtain ⟨g, rfl⟩ : ∃ g, gk = g + 1 := ⟨gk - 1, by omega⟩
      have hkL : k < n := by omega
      obtain ⟨a, rfl, hc0, hc1⟩ := (HR5.out.below HB.out) k (by rw [HN.out]; exact hkL)
      have hmem : l[k]?.getD (0, 0) ∈ l := by rw [List.getElem?_eq_getElem (by rw [HN.out]; exact hkL)]; exact List.getElem_mem _
      have hb64 := HIN.out _ hmem
      obtain ⟨y, ey, hme⟩ : ∃ m e, l[k]?.getD (0, 0) = (m, e) := ⟨_, _, rfl⟩
      rw [hme] at hc0 hc1 hb64
      dsimp only at hc0 hc1 hb64
      have hc1' : wr.cell? { block := (a.add (k * 2)).block, off := (a.add (k * 2)).off + 1, spot := none } = some (.int .i64 ey) := hc1
      have HSV := Lib.hid (fun w' => svalid_c y ey w' hb64.1 hb64.2)
      have hki : (k : Int) < (n : Int) := by omega
      have hkl := HLC.out
      have htk := drop_take' (by rw [HN.out]; exact hkL) hme
      have hbs := badL_snoc (l.take k) (y, ey)
      rw [← htk] at hbs
      dsimp only at hbs
      by_cases hv : RV y.natAbs ey
      · rw [if_pos hv] at hbs
        rw [show decide (RV y.natAbs ey) = true from decide_eq_true hv] at HSV
        have HBS := Lib.hid hbs
        clear hmem hme hb64 htk hbs hv hg
        go_wp2_with (go_at_call 31; (with_reducible refine (HSV.out _).mono ?_); rintro en w7 ⟨rfl, hbz⟩; have HX7 := Lib.hid (heapB hbz HX.out); have HB7 := Lib.hid (belowT HB.out hbz); clear hbz)
        go_roundg g
        exact ⟨k + 1, by simp, by omega, by rw [HBS.out], HX7, HB7⟩
        exact Nat.lt_succ_self g
      · rw [if_neg hv] at hbs
        rw [show decide (RV y.natAbs ey) = false from decide_eq_false hv] at HSV
        have HBS := Lib.hid hbs
        clear hmem hme hb64 htk hbs hv hg
        go_wp2_with (go_at_call 31; (with_reducible refine (HSV.out _).mono ?_); rintro en w7 ⟨rfl, hbz⟩; have HX7 := Lib.hid (heapB hbz HX.out); have HB7 := Lib.hid (belowT HB.out hbz); clear hbz)
        go_roundg g
        exact ⟨k + 1, by simp, by omega, by rw [HBS.out], HX7, HB7⟩
        exact Nat.lt_succ_self g
end Go.Proofs.YtekbfommnmikbaaGreatDoor
