/- Texts of this claim, merged: ChecksL, SpD. -/
import Derived.Test.YtekbfommnmikbaaGreatDoorP8
/- The law RealChecks: its walk. -/
namespace Go.Proofs.YtekbfommnmikbaaGreatDoor
set_option linter.unusedVariables false
set_option linter.unusedSimpArgs false
open Go.RowKit Go.Shelf Go.Proofs Go.Sort
attribute [local go_sem ↓] Go.wp_at_zero Go.wp_at_succ

/-- The order of two reals, as the reference has it. -/
theorem cmp_sgn {xm xe ym ye : Int} (hx : RV xm.natAbs xe) (hy : RV ym.natAbs ye) : max (-1) (min (plR xm xe - plR ym ye) 1) = sgn (xm * 10 ^ (xe - mn xe ye).toNat - ym * 10 ^ (ye - mn xe ye).toNat) := by
  have a := RV_exp hx
  have b := RV_exp hy
  obtain ⟨m, hm⟩ : ∃ m, mn xe ye = m := ⟨_, rfl⟩
  have hle := mn_le xe ye
  have hm0 : -111 ≤ m := by unfold mn at hm; split at hm <;> omega
  rw [hm] at hle ⊢
  have l1 := plR_lt hx hy
  have l2 := plR_lt hy hx
  have e1 : vR xm xe = xm * 10 ^ (xe - m).toNat * 10 ^ (m + 111).toNat := by
    unfold vR; rw [Int.mul_assoc, ← Int.pow_add]; congr 2; omega
  have e2 : vR ym ye = ym * 10 ^ (ye - m).toNat * 10 ^ (m + 111).toNat := by
    unfold vR; rw [Int.mul_assoc, ← Int.pow_add]; congr 2; omega
  have hp : (0 : Int) < 10 ^ (m + 111).toNat := Int.pow_pos (by decide)
  rw [e1, e2, Int.mul_lt_mul_right hp] at l1
  rw [e1, e2, Int.mul_lt_mul_right hp] at l2
  generalize xm * 10 ^ (xe - m).toNat = u at *
  generalize ym * 10 ^ (ye - m).toNat = v at *
  unfold sgn
  split
  · omega
  · split <;> omega

set_option maxHeartbeats 1000000 in
theorem sneg_all (m e : Int) (hm : -9223372036854775808 ≤ m) (hm2 : m ≤ 9223372036854775807) : ∃ k : Int, (m ≠ -9223372036854775808 → k = -m) ∧ ∀ w : World,
    Calls Tryz.prog 39 #[.agg #[.int .i64 m, .int .i64 e]] w fun en w' => en = .returned (.agg #[.int .i64 k, .int .i64 e]) ∧ Below w.heap.size w w' := by
  by_cases h : m = -9223372036854775808
  · refine ⟨wrap64 9223372036854775808, fun x => absurd h x, fun w => ?_⟩
    subst h
    obtain ⟨W, hW, k0, k1, hbel, hsz⟩ := bx2h w #[.int .i64 (-9223372036854775808), .int .i64 e] #[.int .i64 0, .int .i64 0] 23 23
    have c00 := cell_of_heap k0 0; have c01 := cell_of_heap k0 1; have d0 := cell_of_heap k1 0; have d1 := cell_of_heap k1 1; have f0 := free_of_heap k1 0; have f1 := free_of_heap k1 1
    simp at c00 c01 d0 d1
    have FIN := fin2 k1 (by omega) hbel
    clear k0 k1 hbel
    go_enter Tryz.func39, Tryz.ntmps39
    go_wp2_with fail
    obtain ⟨k, hk⟩ : ∃ k, wrap64 9223372036854775808 = k := ⟨_, rfl⟩
    rw [hk]
    obtain ⟨r0, r1, hbb⟩ := FIN.out W k e (Below.refl _ _)
    refine bodyPost_ret (v := .agg #[.int .i64 k, .int .i64 e]) (by simp [results, Tryz.results39, go_sem, r0, r1]) rfl ?_
    exact ⟨rfl, hbb⟩
  · exact ⟨-m, fun _ => rfl, fun w => sneg_c m e w (by omega) hm2⟩
/-- What Neg returns agrees with the reference's. -/
theorem neg_agr (m e k : Int) (hk : m ≠ -9223372036854775808 → k = -m) : ∃ z1 z2 er, (if RV m.natAbs e then .tuple #[.agg #[.int .i64 (-m), .int .i64 e], .int .i64 0] else .tuple #[.agg #[.int .i64 0, .int .i64 0], .int .i64 1] : Value) = .tuple #[.agg #[.int .i64 z1, .int .i64 z2], .int .i64 er] ∧ Agr z1 z2 er (argV (RV m.natAbs e) (RV m.natAbs e)) k e true := by
  by_cases h : RV m.natAbs e
  · have h0 : argV (RV m.natAbs e) (RV m.natAbs e) = 0 := by unfold argV; rw [if_pos ⟨h, h⟩]
    have hk2 : k = -m := hk (by unfold RV at h; omega)
    rw [h0, if_pos h]
    exact ⟨_, _, _, rfl, .inr (.inr ⟨rfl, rfl, rfl, hk2.symm, rfl⟩)⟩
  · have h0 : argV (RV m.natAbs e) (RV m.natAbs e) = 1 := by unfold argV; rw [if_neg (fun x => h x.1)]
    rw [h0, if_neg h]
    exact ⟨0, 0, 1, rfl, .inl ⟨by decide, rfl, rfl, rfl⟩⟩
theorem nb1 (w : World) (a b : Value) (t : TypeId) : ∃ ZW, w.alloc (.cells #[a, b] t) = ZW ∧ ZW.cell? ⟨w.heap.size, 0, none⟩ = some a ∧ ZW.cell? ⟨w.heap.size, 1, none⟩ = some b ∧ Below w.heap.size w ZW :=
  ⟨_, rfl, cell_of_heap (heap_alloc_new _ _) 0, cell_of_heap (heap_alloc_new _ _) 1, (Below.refl _ _).alloc (Nat.le_refl _) _⟩

set_option maxRecDepth 100000 in
set_option maxHeartbeats 8000000 in
theorem checks_walk (xm xe ym ye : Int) (w : World) (ht : P10 w) (hx0 : -9223372036854775808 ≤ xm) (hx1 : xm ≤ 9223372036854775807) (hy0 : -9223372036854775808 ≤ ym) (hy1 : ym ≤ 9223372036854775807) :
    Calls Tryz.prog 7 #[.agg #[.int .i64 xm, .int .i64 xe], .agg #[.int .i64 ym, .int .i64 ye]] w fun en w' => en = .returned (.bool true) ∧ Below w.heap.size w w' := by
  obtain ⟨W, hW, k0, k1, hbel, hsz⟩ := bx2h w #[.int .i64 xm, .int .i64 xe] #[.int .i64 ym, .int .i64 ye] 23 23
  have HBEL := Lib.hid hbel
  have HT := Lib.hid (ht.below hbel)
  obtain ⟨c0, c1⟩ := two_cells k0
  obtain ⟨y0, y1⟩ := two_cells k1
  have HSAN : Hid (∀ w' : World, P10 w' → Calls Tryz.prog 25 #[] w' fun e w2 => e = .returned (.bool true) ∧ Below w'.heap.size w' w2) := sanityR_c
  obtain ⟨kk, hkk, hneg⟩ := sneg_all xm xe hx0 hx1
  have HSNEG := Lib.hid hneg
  obtain ⟨z1, z2, er, hst, hag⟩ := neg_agr xm xe kk hkk
  have HNEG := Lib.hid (fun w' => negR_c xm xe w' hx0 hx1)
  rw [hst] at HNEG
  have HCMP := Lib.hid (fun w' => cmpR_c xm xe ym ye w' hx0 hx1 hy0 hy1)
  have HVX := Lib.hid (fun w' => validR_c xm xe w' hx0 hx1)
  have HSX := Lib.hid (fun w' => svalid_c xm xe w' hx0 hx1)
  have HARG := Lib.hid (fun w' => arg_c xm xe xm xe w' hx0 hx1 hx0 hx1)
  have HARG2 := Lib.hid (fun w' => arg_c xm xe ym ye w' hx0 hx1 hy0 hy1)
  have HAGR := Lib.hid (fun w' => agrees_c _ _ _ _ _ _ _ w' hag)
  have HOX := Lib.hid (fun w' => sof_c xm xe w' hx0 hx1)
  have HOY := Lib.hid (fun w' => sof_c ym ye w' hy0 hy1)
  have hcs := fun h : RV xm.natAbs xe ∧ RV ym.natAbs ye => cmp_sgn h.1 h.2
  have hfew : RV xm.natAbs xe ∧ RV ym.natAbs ye → (dg 10 xm.natAbs).length ≤ 1000 ∧ (dg 10 ym.natAbs).length ≤ 1000 := by
    intro h
    have h1 := dgR_len h.1; have h2 := dgR_len h.2
    rw [List.length_reverse] at h1 h2
    exact ⟨by omega, by omega⟩
  have hord := fun (h : RV xm.natAbs xe ∧ RV ym.natAbs ye) (v1 v2 : Value) (w' : World) (h1 : Dc w' v1 xm xe) (h2 : Dc w' v2 ym ye) => sorder_c v1 v2 xm xe ym ye w' h1 h2 (hfew h).1 (hfew h).2 (by have := RV_exp h.1; omega) (by have := RV_exp h.1; omega) (by have := RV_exp h.2; omega) (by have := RV_exp h.2; omega)
  obtain ⟨bad, hbad⟩ : ∃ bad, argV (RV xm.natAbs xe) (RV xm.natAbs xe) = bad := ⟨_, rfl⟩
  rw [hbad] at HARG HAGR
  obtain ⟨bx, hbx⟩ : ∃ bx, decide (RV xm.natAbs xe) = bx := ⟨_, rfl⟩
  rw [hbx] at HVX HSX
  clear k0 k1 hbel hst hag hbad hkk hneg hbx hx0 hx1 hy0 hy1 hfew
  have hsw : (RV ym.natAbs ye ∧ RV xm.natAbs xe) = (RV xm.natAbs xe ∧ RV ym.natAbs ye) := propext And.comm
  have HCMP : Hid (∀ w' : World, Calls Tryz.prog 42 #[.agg #[.int .i64 xm, .int .i64 xe], .agg #[.int .i64 ym, .int .i64 ye]] w' fun en w2 => en = .returned (if RV xm.natAbs xe ∧ RV ym.natAbs ye then .tuple #[.int .i64 (max (-1) (min (plR xm xe - plR ym ye) 1)), .int .i64 0] else .tuple #[.int .i64 0, .int .i64 1]) ∧ Below w'.heap.size w' w2) := by
    intro w'
    refine (HCMP.out w').mono ?_
    rintro en w2 ⟨rfl, hb⟩
    refine ⟨?_, hb⟩
    by_cases h : RV xm.natAbs xe ∧ RV ym.natAbs ye
    · rw [if_pos h, if_pos ⟨h.2, h.1⟩]
    · rw [if_neg h, if_neg (fun x => h ⟨x.2, x.1⟩)]
  clear hsw
  by_cases h : RV xm.natAbs xe ∧ RV ym.natAbs ye
  · rw [if_pos h] at HCMP
    have HORD := Lib.hid (hord h)
    obtain ⟨cm, hcm⟩ : ∃ cm, max (-1) (min (plR xm xe - plR ym ye) 1) = cm := ⟨_, rfl⟩
    have HCS := hcs h
    rw [hcm] at HCMP HCS
    rw [← HCS] at HORD
    have HARG2 : Hid (∀ w' : World, Calls Tryz.prog 20 #[.agg #[.int .i64 xm, .int .i64 xe], .agg #[.int .i64 ym, .int .i64 ye]] w' fun en w2 => en = .returned (.int .i64 0) ∧ Below w'.heap.size w' w2) := by
      have := HARG2.out
      unfold argV at this
      rw [if_pos h] at this
      exact this
    clear h hcs hord hcm HCS
    go_enter Tryz.func7, Tryz.ntmps7
    go_upto_region 3 with (first
      | (go_at_call 42; (with_reducible refine (HCMP.out _).mono ?_); rintro en w2 ⟨rfl, hbz⟩; have c0 := keep_cell hbz c0; have c1 := keep_cell hbz c1; have y0 := keep_cell hbz y0; have y1 := keep_cell hbz y1; have Ac0 := fun o => keep_cell ((Below.refl _ _).alloc (Nat.le_refl _) o) c0; have Ac1 := fun o => keep_cell ((Below.refl _ _).alloc (Nat.le_refl _) o) c1; have Ay0 := fun o => keep_cell ((Below.refl _ _).alloc (Nat.le_refl _) o) y0; have Ay1 := fun o => keep_cell ((Below.refl _ _).alloc (Nat.le_refl _) o) y1; have HB := Lib.hid hbz; clear hbz)
      | (go_at_call 43; (with_reducible refine (HNEG.out _).mono ?_); rintro en w3 ⟨rfl, hbz⟩; have c0 := keep_cell hbz c0; have c1 := keep_cell hbz c1; have y0 := keep_cell hbz y0; have y1 := keep_cell hbz y1; have Ac0 := fun o => keep_cell ((Below.refl _ _).alloc (Nat.le_refl _) o) c0; have Ac1 := fun o => keep_cell ((Below.refl _ _).alloc (Nat.le_refl _) o) c1; have Ay0 := fun o => keep_cell ((Below.refl _ _).alloc (Nat.le_refl _) o) y0; have Ay1 := fun o => keep_cell ((Below.refl _ _).alloc (Nat.le_refl _) o) y1; have HB := Lib.hid (belowT HB.out hbz); clear hbz))
    obtain ⟨ZW, hZW, n0, n1, hzb⟩ := nb1 w3 (.int .i64 z1) (.int .i64 z2) 23
    rw [hZW]
    clear hZW
    have c0 := keep_cell hzb c0; have c1 := keep_cell hzb c1; have y0 := keep_cell hzb y0; have y1 := keep_cell hzb y1
    have HBZ := Lib.hid (belowT HB.out hzb)
    clear HB hzb Ac0 Ac1 Ay0 Ay1
    go_cut [36] from 20 to 36 (fun v wx => v = .bool false ∧ Hid (Below ZW.heap.size ZW wx))
    case first =>
      have HSTL : StableL [(fun _ v => v = .agg #[.int .i64 xm, .int .i64 xe]), (fun _ v => v = .bool bx), (fun _ v => v = .agg #[.int .i64 xm, .int .i64 xe]), (fun _ v => v = .bool bx), (fun _ v => v = .bool false), (fun _ v => v = .bool false), (fun _ v => v = .agg #[.int .i64 z1, .int .i64 z2]), (fun _ v => v = .int .i64 er), (fun _ v => v = .agg #[.int .i64 xm, .int .i64 xe]), (fun _ v => v = .agg #[.int .i64 xm, .int .i64 xe]), (fun _ v => v = .int .i64 bad), (fun _ v => v = .agg #[.int .i64 xm, .int .i64 xe]), (fun _ v => v = .agg #[.int .i64 kk, .int .i64 xe]), (fun _ v => v = .agg #[.int .i64 kk, .int .i64 xe, .bool true]), (fun _ v => v = .bool true), (fun _ v => v = .bool false), (fun _ v => v = .bool false)] := ⟨(fun _ _ _ _ h => h), (fun _ _ _ _ h => h), (fun _ _ _ _ h => h), (fun _ _ _ _ h => h), (fun _ _ _ _ h => h), (fun _ _ _ _ h => h), (fun _ _ _ _ h => h), (fun _ _ _ _ h => h), (fun _ _ _ _ h => h), (fun _ _ _ _ h => h), (fun _ _ _ _ h => h), (fun _ _ _ _ h => h), (fun _ _ _ _ h => h), (fun _ _ _ _ h => h), (fun _ _ _ _ h => h), (fun _ _ _ _ h => h), (fun _ _ _ _ h => h), trivial⟩
      refine wp_region_p [20, 21, 22, 23, 24, 25, 26, 27, 28, 29, 30, 31, 32, 33, 34, 35, 36] [20, 21, 22, 23, 24, 25, 26, 27, 28, 29, 30, 31, 32, 33, 34, 35, 36] [(fun _ v => v = .agg #[.int .i64 xm, .int .i64 xe]), (fun _ v => v = .bool bx), (fun _ v => v = .agg #[.int .i64 xm, .int .i64 xe]), (fun _ v => v = .bool bx), (fun _ v => v = .bool false), (fun _ v => v = .bool false), (fun _ v => v = .agg #[.int .i64 z1, .int .i64 z2]), (fun _ v => v = .int .i64 er), (fun _ v => v = .agg #[.int .i64 xm, .int .i64 xe]), (fun _ v => v = .agg #[.int .i64 xm, .int .i64 xe]), (fun _ v => v = .int .i64 bad), (fun _ v => v = .agg #[.int .i64 xm, .int .i64 xe]), (fun _ v => v = .agg #[.int .i64 kk, .int .i64 xe]), (fun _ v => v = .agg #[.int .i64 kk, .int .i64 xe, .bool true]), (fun _ v => v = .bool true), (fun _ v => v = .bool false), (fun _ v => v = .bool false)] 17 (fun _ _ => True) 17 rfl (by kernel_rfl) (by kernel_rfl) ?_ ⟨?_, ?_, ?_, ?_, ?_, ?_, ?_, ?_, ?_, ?_, ?_, ?_, ?_, ?_, ?_, ?_, ?_, trivial⟩
      · intro l us wx hl hJ
        have HNF := hJ.nofin (by kernel_rfl)
        have HB := Lib.hid (hJ.below HNF)
        have h36 : us 36 = .bool false := hJ.val HNF 16 (by decide) (hl 16 (by decide))
        clear hl hJ
        simp only [At, List.foldl_cons, List.foldl_nil, List.setIfInBounds_toArray, List.set_cons_zero, List.set_cons_succ]
        go_wp2_with fail
        go_meet
        exact ⟨by first | rfl | assumption, HB⟩
      · refine opAt rfl ?_
        intro l us wx hJ hp hl K hK
        have HJ := Lib.hid hJ; have HP := Lib.hid hp; have HLI := Lib.hid hl; have HF := Lib.hid (hJ.live hl (by decide)); have HBX := Lib.hid (hJ.below HF.out); have HK := hK
        clear hJ hp hl hK
        simp only [At, List.foldl_cons, List.foldl_nil, List.setIfInBounds_toArray, List.set_cons_zero, List.set_cons_succ] at HK
        have HK := Lib.hid HK
        have c0 := keep_cell HBX.out c0
        have c1 := keep_cell HBX.out c1
        simp only [At, List.foldl_cons, List.foldl_nil, List.setIfInBounds_toArray, List.set_cons_zero, List.set_cons_succ]
        refine ⟨?_⟩
        go_simp
        exact HK.out (upd us 20 (.agg #[.int .i64 xm, .int .i64 xe])) wx (by exact HJ.out.go HSTL (by kernel_rfl) 0 HF.out (by decide) (by decide) HP.out (Below.refl _ _) (.agg #[.int .i64 xm, .int .i64 xe]) (rfl))
      · refine opAt rfl ?_
        intro l us wx hJ hp hl K hK
        have HJ := Lib.hid hJ; have HP := Lib.hid hp; have HLI := Lib.hid hl; have HF := Lib.hid (hJ.live hl (by decide)); have HBX := Lib.hid (hJ.below HF.out); have HK := hK
        clear hJ hp hl hK
        simp only [At, List.foldl_cons, List.foldl_nil, List.setIfInBounds_toArray, List.set_cons_zero, List.set_cons_succ] at HK
        have HK := Lib.hid HK
        have h20 : us 20 = .agg #[.int .i64 xm, .int .i64 xe] := HJ.out.val HF.out 0 (by decide) (HP.out 0 (by kernel_rfl))
        simp only [At, List.foldl_cons, List.foldl_nil, List.setIfInBounds_toArray, List.set_cons_zero, List.set_cons_succ]
        refine ⟨?_⟩
        go_simp
        go_wp2_with ((go_at_call 33; (with_reducible refine (HVX.out _).mono ?_); rintro en w9 ⟨rfl, hbz⟩; have HC := Lib.hid hbz; clear hbz))
        exact HK.out (upd (upd us 20 (.agg #[.int .i64 xm, .int .i64 xe])) 21 (.bool bx)) w9 (by rw [upd_self h20]; exact HJ.out.go HSTL (by kernel_rfl) 1 HF.out (by decide) (by decide) HP.out HC.out (.bool bx) (rfl))
      · refine opAt rfl ?_
        intro l us wx hJ hp hl K hK
        have HJ := Lib.hid hJ; have HP := Lib.hid hp; have HLI := Lib.hid hl; have HF := Lib.hid (hJ.live hl (by decide)); have HBX := Lib.hid (hJ.below HF.out); have HK := hK
        clear hJ hp hl hK
        simp only [At, List.foldl_cons, List.foldl_nil, List.setIfInBounds_toArray, List.set_cons_zero, List.set_cons_succ] at HK
        have HK := Lib.hid HK
        have c0 := keep_cell HBX.out c0
        have c1 := keep_cell HBX.out c1
        simp only [At, List.foldl_cons, List.foldl_nil, List.setIfInBounds_toArray, List.set_cons_zero, List.set_cons_succ]
        refine ⟨?_⟩
        go_simp
        exact HK.out (upd us 22 (.agg #[.int .i64 xm, .int .i64 xe])) wx (by exact HJ.out.go HSTL (by kernel_rfl) 2 HF.out (by decide) (by decide) HP.out (Below.refl _ _) (.agg #[.int .i64 xm, .int .i64 xe]) (rfl))
      · refine opAt rfl ?_
        intro l us wx hJ hp hl K hK
        have HJ := Lib.hid hJ; have HP := Lib.hid hp; have HLI := Lib.hid hl; have HF := Lib.hid (hJ.live hl (by decide)); have HBX := Lib.hid (hJ.below HF.out); have HK := hK
        clear hJ hp hl hK
        simp only [At, List.foldl_cons, List.foldl_nil, List.setIfInBounds_toArray, List.set_cons_zero, List.set_cons_succ] at HK
        have HK := Lib.hid HK
        have h22 : us 22 = .agg #[.int .i64 xm, .int .i64 xe] := HJ.out.val HF.out 2 (by decide) (HP.out 2 (by kernel_rfl))
        simp only [At, List.foldl_cons, List.foldl_nil, List.setIfInBounds_toArray, List.set_cons_zero, List.set_cons_succ]
        refine ⟨?_⟩
        go_simp
        go_wp2_with ((go_at_call 31; (with_reducible refine (HSX.out _).mono ?_); rintro en w9 ⟨rfl, hbz⟩; have HC := Lib.hid hbz; clear hbz))
        exact HK.out (upd (upd us 22 (.agg #[.int .i64 xm, .int .i64 xe])) 23 (.bool bx)) w9 (by rw [upd_self h22]; exact HJ.out.go HSTL (by kernel_rfl) 3 HF.out (by decide) (by decide) HP.out HC.out (.bool bx) (rfl))
      · refine opAt rfl ?_
        intro l us wx hJ hp hl K hK
        have HJ := Lib.hid hJ; have HP := Lib.hid hp; have HLI := Lib.hid hl; have HF := Lib.hid (hJ.live hl (by decide)); have HBX := Lib.hid (hJ.below HF.out); have HK := hK
        clear hJ hp hl hK
        simp only [At, List.foldl_cons, List.foldl_nil, List.setIfInBounds_toArray, List.set_cons_zero, List.set_cons_succ] at HK
        have HK := Lib.hid HK
        have h21 : us 21 = .bool bx := HJ.out.val HF.out 1 (by decide) (HP.out 1 (by kernel_rfl))
        have h23 : us 23 = .bool bx := HJ.out.val HF.out 3 (by decide) (HP.out 3 (by kernel_rfl))
        simp only [At, List.foldl_cons, List.foldl_nil, List.setIfInBounds_toArray, List.set_cons_zero, List.set_cons_succ]
        refine ⟨?_⟩
        go_simp
        exact HK.out (upd (upd (upd us 21 (.bool bx)) 23 (.bool bx)) 24 (.bool false)) wx (by rw [upd_self h21, upd_self h23]; exact HJ.out.go HSTL (by kernel_rfl) 4 HF.out (by decide) (by decide) HP.out (Below.refl _ _) (.bool false) (rfl))
      · refine opAt rfl ?_
        intro l us wx hJ hp hl K hK
        have HJ := Lib.hid hJ; have HP := Lib.hid hp; have HLI := Lib.hid hl; have HF := Lib.hid (hJ.live hl (by decide)); have HBX := Lib.hid (hJ.below HF.out); have HK := hK
        clear hJ hp hl hK
        simp only [At, List.foldl_cons, List.foldl_nil, List.setIfInBounds_toArray, List.set_cons_zero, List.set_cons_succ] at HK
        have HK := Lib.hid HK
        have h24 : us 24 = .bool false := HJ.out.val HF.out 4 (by decide) (HP.out 4 (by kernel_rfl))
        simp only [At, List.foldl_cons, List.foldl_nil, List.setIfInBounds_toArray, List.set_cons_zero, List.set_cons_succ]
        refine ⟨?_⟩
        go_simp
        exact HK.out (upd (upd us 24 (.bool false)) 25 (.bool false)) wx (by rw [upd_self h24]; exact HJ.out.go HSTL (by kernel_rfl) 5 HF.out (by decide) (by decide) HP.out (Below.refl _ _) (.bool false) (rfl))
      · refine opAt rfl ?_
        intro l us wx hJ hp hl K hK
        have HJ := Lib.hid hJ; have HP := Lib.hid hp; have HLI := Lib.hid hl; have HF := Lib.hid (hJ.live hl (by decide)); have HBX := Lib.hid (hJ.below HF.out); have HK := hK
        clear hJ hp hl hK
        simp only [At, List.foldl_cons, List.foldl_nil, List.setIfInBounds_toArray, List.set_cons_zero, List.set_cons_succ] at HK
        have HK := Lib.hid HK
        have h25 : us 25 = .bool false := HJ.out.val HF.out 5 (by decide) (HP.out 5 (by kernel_rfl))
        have n0 := keep_cell HBX.out n0
        have n1 := keep_cell HBX.out n1
        simp only [At, List.foldl_cons, List.foldl_nil, List.setIfInBounds_toArray, List.set_cons_zero, List.set_cons_succ]
        refine ⟨?_⟩
        go_simp
        exact HK.out (upd (upd us 25 (.bool false)) 26 (.agg #[.int .i64 z1, .int .i64 z2])) wx (by rw [upd_self h25]; exact HJ.out.go HSTL (by kernel_rfl) 6 HF.out (by decide) (by decide) HP.out (Below.refl _ _) (.agg #[.int .i64 z1, .int .i64 z2]) (rfl))
      · refine opAt rfl ?_
        intro l us wx hJ hp hl K hK
        have HJ := Lib.hid hJ; have HP := Lib.hid hp; have HLI := Lib.hid hl; have HF := Lib.hid (hJ.live hl (by decide)); have HBX := Lib.hid (hJ.below HF.out); have HK := hK
        clear hJ hp hl hK
        simp only [At, List.foldl_cons, List.foldl_nil, List.setIfInBounds_toArray, List.set_cons_zero, List.set_cons_succ] at HK
        have HK := Lib.hid HK
        have h25 : us 25 = .bool false := HJ.out.val HF.out 5 (by decide) (HP.out 5 (by kernel_rfl))
        simp only [At, List.foldl_cons, List.foldl_nil, List.setIfInBounds_toArray, List.set_cons_zero, List.set_cons_succ]
        refine ⟨?_⟩
        go_simp
        exact HK.out (upd (upd us 25 (.bool false)) 27 (.int .i64 er)) wx (by rw [upd_self h25]; exact HJ.out.go HSTL (by kernel_rfl) 7 HF.out (by decide) (by decide) HP.out (Below.refl _ _) (.int .i64 er) (rfl))
      · refine opAt rfl ?_
        intro l us wx hJ hp hl K hK
        have HJ := Lib.hid hJ; have HP := Lib.hid hp; have HLI := Lib.hid hl; have HF := Lib.hid (hJ.live hl (by decide)); have HBX := Lib.hid (hJ.below HF.out); have HK := hK
        clear hJ hp hl hK
        simp only [At, List.foldl_cons, List.foldl_nil, List.setIfInBounds_toArray, List.set_cons_zero, List.set_cons_succ] at HK
        have HK := Lib.hid HK
        have h25 : us 25 = .bool false := HJ.out.val HF.out 5 (by decide) (HP.out 5 (by kernel_rfl))
        have c0 := keep_cell HBX.out c0
        have c1 := keep_cell HBX.out c1
        simp only [At, List.foldl_cons, List.foldl_nil, List.setIfInBounds_toArray, List.set_cons_zero, List.set_cons_succ]
        refine ⟨?_⟩
        go_simp
        exact HK.out (upd (upd us 25 (.bool false)) 28 (.agg #[.int .i64 xm, .int .i64 xe])) wx (by rw [upd_self h25]; exact HJ.out.go HSTL (by kernel_rfl) 8 HF.out (by decide) (by decide) HP.out (Below.refl _ _) (.agg #[.int .i64 xm, .int .i64 xe]) (rfl))
      · refine opAt rfl ?_
        intro l us wx hJ hp hl K hK
        have HJ := Lib.hid hJ; have HP := Lib.hid hp; have HLI := Lib.hid hl; have HF := Lib.hid (hJ.live hl (by decide)); have HBX := Lib.hid (hJ.below HF.out); have HK := hK
        clear hJ hp hl hK
        simp only [At, List.foldl_cons, List.foldl_nil, List.setIfInBounds_toArray, List.set_cons_zero, List.set_cons_succ] at HK
        have HK := Lib.hid HK
        have h25 : us 25 = .bool false := HJ.out.val HF.out 5 (by decide) (HP.out 5 (by kernel_rfl))
        have c0 := keep_cell HBX.out c0
        have c1 := keep_cell HBX.out c1
        simp only [At, List.foldl_cons, List.foldl_nil, List.setIfInBounds_toArray, List.set_cons_zero, List.set_cons_succ]
        refine ⟨?_⟩
        go_simp
        exact HK.out (upd (upd us 25 (.bool false)) 29 (.agg #[.int .i64 xm, .int .i64 xe])) wx (by rw [upd_self h25]; exact HJ.out.go HSTL (by kernel_rfl) 9 HF.out (by decide) (by decide) HP.out (Below.refl _ _) (.agg #[.int .i64 xm, .int .i64 xe]) (rfl))
      · refine opAt rfl ?_
        intro l us wx hJ hp hl K hK
        have HJ := Lib.hid hJ; have HP := Lib.hid hp; have HLI := Lib.hid hl; have HF := Lib.hid (hJ.live hl (by decide)); have HBX := Lib.hid (hJ.below HF.out); have HK := hK
        clear hJ hp hl hK
        simp only [At, List.foldl_cons, List.foldl_nil, List.setIfInBounds_toArray, List.set_cons_zero, List.set_cons_succ] at HK
        have HK := Lib.hid HK
        have h25 : us 25 = .bool false := HJ.out.val HF.out 5 (by decide) (HP.out 5 (by kernel_rfl))
        have h28 : us 28 = .agg #[.int .i64 xm, .int .i64 xe] := HJ.out.val HF.out 8 (by decide) (HP.out 8 (by kernel_rfl))
        have h29 : us 29 = .agg #[.int .i64 xm, .int .i64 xe] := HJ.out.val HF.out 9 (by decide) (HP.out 9 (by kernel_rfl))
        simp only [At, List.foldl_cons, List.foldl_nil, List.setIfInBounds_toArray, List.set_cons_zero, List.set_cons_succ]
        refine ⟨?_⟩
        go_simp
        go_wp2_with ((go_at_call 20; (with_reducible refine (HARG.out _).mono ?_); rintro en w9 ⟨rfl, hbz⟩; have HC := Lib.hid hbz; clear hbz))
        exact HK.out (upd (upd (upd (upd us 25 (.bool false)) 28 (.agg #[.int .i64 xm, .int .i64 xe])) 29 (.agg #[.int .i64 xm, .int .i64 xe])) 30 (.int .i64 bad)) w9 (by rw [upd_self h25, upd_self h28, upd_self h29]; exact HJ.out.go HSTL (by kernel_rfl) 10 HF.out (by decide) (by decide) HP.out HC.out (.int .i64 bad) (rfl))
      · refine opAt rfl ?_
        intro l us wx hJ hp hl K hK
        have HJ := Lib.hid hJ; have HP := Lib.hid hp; have HLI := Lib.hid hl; have HF := Lib.hid (hJ.live hl (by decide)); have HBX := Lib.hid (hJ.below HF.out); have HK := hK
        clear hJ hp hl hK
        simp only [At, List.foldl_cons, List.foldl_nil, List.setIfInBounds_toArray, List.set_cons_zero, List.set_cons_succ] at HK
        have HK := Lib.hid HK
        have h25 : us 25 = .bool false := HJ.out.val HF.out 5 (by decide) (HP.out 5 (by kernel_rfl))
        have c0 := keep_cell HBX.out c0
        have c1 := keep_cell HBX.out c1
        simp only [At, List.foldl_cons, List.foldl_nil, List.setIfInBounds_toArray, List.set_cons_zero, List.set_cons_succ]
        refine ⟨?_⟩
        go_simp
        exact HK.out (upd (upd us 25 (.bool false)) 31 (.agg #[.int .i64 xm, .int .i64 xe])) wx (by rw [upd_self h25]; exact HJ.out.go HSTL (by kernel_rfl) 11 HF.out (by decide) (by decide) HP.out (Below.refl _ _) (.agg #[.int .i64 xm, .int .i64 xe]) (rfl))
      · refine opAt rfl ?_
        intro l us wx hJ hp hl K hK
        have HJ := Lib.hid hJ; have HP := Lib.hid hp; have HLI := Lib.hid hl; have HF := Lib.hid (hJ.live hl (by decide)); have HBX := Lib.hid (hJ.below HF.out); have HK := hK
        clear hJ hp hl hK
        simp only [At, List.foldl_cons, List.foldl_nil, List.setIfInBounds_toArray, List.set_cons_zero, List.set_cons_succ] at HK
        have HK := Lib.hid HK
        have h25 : us 25 = .bool false := HJ.out.val HF.out 5 (by decide) (HP.out 5 (by kernel_rfl))
        have h31 : us 31 = .agg #[.int .i64 xm, .int .i64 xe] := HJ.out.val HF.out 11 (by decide) (HP.out 11 (by kernel_rfl))
        simp only [At, List.foldl_cons, List.foldl_nil, List.setIfInBounds_toArray, List.set_cons_zero, List.set_cons_succ]
        refine ⟨?_⟩
        go_simp
        go_wp2_with ((go_at_call 39; (with_reducible refine (HSNEG.out _).mono ?_); rintro en w9 ⟨rfl, hbz⟩; have HC := Lib.hid hbz; clear hbz))
        exact HK.out (upd (upd (upd us 25 (.bool false)) 31 (.agg #[.int .i64 xm, .int .i64 xe])) 32 (.agg #[.int .i64 kk, .int .i64 xe])) w9 (by rw [upd_self h25, upd_self h31]; exact HJ.out.go HSTL (by kernel_rfl) 12 HF.out (by decide) (by decide) HP.out HC.out (.agg #[.int .i64 kk, .int .i64 xe]) (rfl))
      · refine opAt rfl ?_
        intro l us wx hJ hp hl K hK
        have HJ := Lib.hid hJ; have HP := Lib.hid hp; have HLI := Lib.hid hl; have HF := Lib.hid (hJ.live hl (by decide)); have HBX := Lib.hid (hJ.below HF.out); have HK := hK
        clear hJ hp hl hK
        simp only [At, List.foldl_cons, List.foldl_nil, List.setIfInBounds_toArray, List.set_cons_zero, List.set_cons_succ] at HK
        have HK := Lib.hid HK
        have h25 : us 25 = .bool false := HJ.out.val HF.out 5 (by decide) (HP.out 5 (by kernel_rfl))
        have h32 : us 32 = .agg #[.int .i64 kk, .int .i64 xe] := HJ.out.val HF.out 12 (by decide) (HP.out 12 (by kernel_rfl))
        simp only [At, List.foldl_cons, List.foldl_nil, List.setIfInBounds_toArray, List.set_cons_zero, List.set_cons_succ]
        refine ⟨?_⟩
        go_simp
        exact HK.out (upd (upd (upd us 25 (.bool false)) 32 (.agg #[.int .i64 kk, .int .i64 xe])) 33 (.agg #[.int .i64 kk, .int .i64 xe, .bool true])) wx (by rw [upd_self h25, upd_self h32]; exact HJ.out.go HSTL (by kernel_rfl) 13 HF.out (by decide) (by decide) HP.out (Below.refl _ _) (.agg #[.int .i64 kk, .int .i64 xe, .bool true]) (rfl))
      · refine opAt rfl ?_
        intro l us wx hJ hp hl K hK
        have HJ := Lib.hid hJ; have HP := Lib.hid hp; have HLI := Lib.hid hl; have HF := Lib.hid (hJ.live hl (by decide)); have HBX := Lib.hid (hJ.below HF.out); have HK := hK
        clear hJ hp hl hK
        simp only [At, List.foldl_cons, List.foldl_nil, List.setIfInBounds_toArray, List.set_cons_zero, List.set_cons_succ] at HK
        have HK := Lib.hid HK
        have h25 : us 25 = .bool false := HJ.out.val HF.out 5 (by decide) (HP.out 5 (by kernel_rfl))
        have h26 : us 26 = .agg #[.int .i64 z1, .int .i64 z2] := HJ.out.val HF.out 6 (by decide) (HP.out 6 (by kernel_rfl))
        have h27 : us 27 = .int .i64 er := HJ.out.val HF.out 7 (by decide) (HP.out 7 (by kernel_rfl))
        have h30 : us 30 = .int .i64 bad := HJ.out.val HF.out 10 (by decide) (HP.out 10 (by kernel_rfl))
        have h33 : us 33 = .agg #[.int .i64 kk, .int .i64 xe, .bool true] := HJ.out.val HF.out 13 (by decide) (HP.out 13 (by kernel_rfl))
        simp only [At, List.foldl_cons, List.foldl_nil, List.setIfInBounds_toArray, List.set_cons_zero, List.set_cons_succ]
        refine ⟨?_⟩
        go_simp
        go_wp2_with ((go_at_call 21; (with_reducible refine (HAGR.out _).mono ?_); rintro en w9 ⟨rfl, hbz⟩; have HC := Lib.hid hbz; clear hbz))
        exact HK.out (upd (upd (upd (upd (upd (upd us 25 (.bool false)) 26 (.agg #[.int .i64 z1, .int .i64 z2])) 27 (.int .i64 er)) 30 (.int .i64 bad)) 33 (.agg #[.int .i64 kk, .int .i64 xe, .bool true])) 34 (.bool true)) w9 (by rw [upd_self h25, upd_self h26, upd_self h27, upd_self h30, upd_self h33]; exact HJ.out.go HSTL (by kernel_rfl) 14 HF.out (by decide) (by decide) HP.out HC.out (.bool true) (rfl))
      · refine opAt rfl ?_
        intro l us wx hJ hp hl K hK
        have HJ := Lib.hid hJ; have HP := Lib.hid hp; have HLI := Lib.hid hl; have HF := Lib.hid (hJ.live hl (by decide)); have HBX := Lib.hid (hJ.below HF.out); have HK := hK
        clear hJ hp hl hK
        simp only [At, List.foldl_cons, List.foldl_nil, List.setIfInBounds_toArray, List.set_cons_zero, List.set_cons_succ] at HK
        have HK := Lib.hid HK
        have h25 : us 25 = .bool false := HJ.out.val HF.out 5 (by decide) (HP.out 5 (by kernel_rfl))
        have h34 : us 34 = .bool true := HJ.out.val HF.out 14 (by decide) (HP.out 14 (by kernel_rfl))
        simp only [At, List.foldl_cons, List.foldl_nil, List.setIfInBounds_toArray, List.set_cons_zero, List.set_cons_succ]
        refine ⟨?_⟩
        go_simp
        exact HK.out (upd (upd (upd us 25 (.bool false)) 34 (.bool true)) 35 (.bool false)) wx (by rw [upd_self h25, upd_self h34]; exact HJ.out.go HSTL (by kernel_rfl) 15 HF.out (by decide) (by decide) HP.out (Below.refl _ _) (.bool false) (rfl))
      · refine opAt rfl ?_
        intro l us wx hJ hp hl K hK
        have HJ := Lib.hid hJ; have HP := Lib.hid hp; have HLI := Lib.hid hl; have HF := Lib.hid (hJ.live hl (by decide)); have HBX := Lib.hid (hJ.below HF.out); have HK := hK
        clear hJ hp hl hK
        simp only [At, List.foldl_cons, List.foldl_nil, List.setIfInBounds_toArray, List.set_cons_zero, List.set_cons_succ] at HK
        have HK := Lib.hid HK
        have h25 : us 25 = .bool false := HJ.out.val HF.out 5 (by decide) (HP.out 5 (by kernel_rfl))
        have h35 : us 35 = .bool false := HJ.out.val HF.out 15 (by decide) (HP.out 15 (by kernel_rfl))
        simp only [At, List.foldl_cons, List.foldl_nil, List.setIfInBounds_toArray, List.set_cons_zero, List.set_cons_succ]
        refine ⟨?_⟩
        go_simp
        exact HK.out (upd (upd (upd us 25 (.bool false)) 35 (.bool false)) 36 (.bool false)) wx (by rw [upd_self h25, upd_self h35]; exact HJ.out.go HSTL (by kernel_rfl) 16 HF.out (by decide) (by decide) HP.out (Below.refl _ _) (.bool false) (rfl))
    case rest =>
      obtain ⟨rfl, HBC⟩ := hcut
      obtain ⟨T, hT⟩ : ∃ T, wc = T := ⟨_, rfl⟩
      rw [hT] at HBC ⊢
      clear hT
      have c0 := keep_cell HBC.out c0; have c1 := keep_cell HBC.out c1; have y0 := keep_cell HBC.out y0; have y1 := keep_cell HBC.out y1
      have HB := Lib.hid (belowT HBZ.out HBC.out)
      go_upto_region 7 with (first
        | (go_at_call 20; (with_reducible refine (HARG2.out _).mono ?_); rintro en ZV ⟨rfl, hbz⟩; have c0 := keep_cell hbz c0; have c1 := keep_cell hbz c1; have y0 := keep_cell hbz y0; have y1 := keep_cell hbz y1; have Ac0 := fun o => keep_cell ((Below.refl _ _).alloc (Nat.le_refl _) o) c0; have Ac1 := fun o => keep_cell ((Below.refl _ _).alloc (Nat.le_refl _) o) c1; have Ay0 := fun o => keep_cell ((Below.refl _ _).alloc (Nat.le_refl _) o) y0; have Ay1 := fun o => keep_cell ((Below.refl _ _).alloc (Nat.le_refl _) o) y1; have HB := Lib.hid (belowT HB.out hbz); clear hbz))
      have HBZ := HB
      clear HB Ac0 Ac1 Ay0 Ay1
      go_cut [4] from 50 to 63 (fun v wx => v = .bool true ∧ Hid (Below ZV.heap.size ZV wx))
      case first =>
        have HSTL : StableL [(fun _ v => v = .bool true), (fun _ v => v = .bool true), (fun _ v => v = .int .i64 0), (fun _ v => v = .bool true), (fun _ v => v = .bool true), (fun _ v => v = .bool true), (fun _ v => v = .int .i64 cm), (fun _ v => v = .agg #[.int .i64 xm, .int .i64 xe]), (fun w v => Dc w v (xm) (xe)), (fun _ v => v = .agg #[.int .i64 ym, .int .i64 ye]), (fun w v => Dc w v (ym) (ye)), (fun _ v => v = .int .i64 cm), (fun _ v => v = .bool true), (fun _ v => v = .bool true), (fun _ v => v = .bool true)] := ⟨(fun _ _ _ _ h => h), (fun _ _ _ _ h => h), (fun _ _ _ _ h => h), (fun _ _ _ _ h => h), (fun _ _ _ _ h => h), (fun _ _ _ _ h => h), (fun _ _ _ _ h => h), (fun _ _ _ _ h => h), (fun _ _ _ hb h => Dc.below h hb), (fun _ _ _ _ h => h), (fun _ _ _ hb h => Dc.below h hb), (fun _ _ _ _ h => h), (fun _ _ _ _ h => h), (fun _ _ _ _ h => h), (fun _ _ _ _ h => h), trivial⟩
        refine wp_region_p [50, 51, 52, 53, 54, 55, 56, 57, 58, 59, 60, 61, 62, 63, 4] [50, 51, 52, 53, 54, 55, 56, 57, 58, 59, 60, 61, 62, 63, 4] [(fun _ v => v = .bool true), (fun _ v => v = .bool true), (fun _ v => v = .int .i64 0), (fun _ v => v = .bool true), (fun _ v => v = .bool true), (fun _ v => v = .bool true), (fun _ v => v = .int .i64 cm), (fun _ v => v = .agg #[.int .i64 xm, .int .i64 xe]), (fun w v => Dc w v (xm) (xe)), (fun _ v => v = .agg #[.int .i64 ym, .int .i64 ye]), (fun w v => Dc w v (ym) (ye)), (fun _ v => v = .int .i64 cm), (fun _ v => v = .bool true), (fun _ v => v = .bool true), (fun _ v => v = .bool true)] 15 (fun _ _ => True) 15 rfl (by kernel_rfl) (by kernel_rfl) ?_ ⟨?_, ?_, ?_, ?_, ?_, ?_, ?_, ?_, ?_, ?_, ?_, ?_, ?_, ?_, ?_, trivial⟩
        · intro l us wx hl hJ
          have HNF := hJ.nofin (by kernel_rfl)
          have HB := Lib.hid (hJ.below HNF)
          have h4 : us 4 = .bool true := hJ.val HNF 14 (by decide) (hl 14 (by decide))
          clear hl hJ
          simp only [At, List.foldl_cons, List.foldl_nil, List.setIfInBounds_toArray, List.set_cons_zero, List.set_cons_succ]
          go_wp2_with fail
          go_meet
          exact ⟨by first | rfl | assumption, HB⟩
        · refine opAt rfl ?_
          intro l us wx hJ hp hl K hK
          have HJ := Lib.hid hJ; have HP := Lib.hid hp; have HLI := Lib.hid hl; have HF := Lib.hid (hJ.live hl (by decide)); have HBX := Lib.hid (hJ.below HF.out); have HK := hK
          clear hJ hp hl hK
          simp only [At, List.foldl_cons, List.foldl_nil, List.setIfInBounds_toArray, List.set_cons_zero, List.set_cons_succ] at HK
          have HK := Lib.hid HK
          simp only [At, List.foldl_cons, List.foldl_nil, List.setIfInBounds_toArray, List.set_cons_zero, List.set_cons_succ]
          refine ⟨?_⟩
          go_simp
          go_wp2_with ((go_at_call 25; (with_reducible refine (HSAN.out _ (HT.out.below (belowT HBZ.out HBX.out))).mono ?_); rintro en w9 ⟨rfl, hbz⟩; have HC := Lib.hid hbz; clear hbz))
          exact HK.out (upd us 50 (.bool true)) w9 (by exact HJ.out.go HSTL (by kernel_rfl) 0 HF.out (by decide) (by decide) HP.out HC.out (.bool true) (rfl))
        · refine opAt rfl ?_
          intro l us wx hJ hp hl K hK
          have HJ := Lib.hid hJ; have HP := Lib.hid hp; have HLI := Lib.hid hl; have HF := Lib.hid (hJ.live hl (by decide)); have HBX := Lib.hid (hJ.below HF.out); have HK := hK
          clear hJ hp hl hK
          simp only [At, List.foldl_cons, List.foldl_nil, List.setIfInBounds_toArray, List.set_cons_zero, List.set_cons_succ] at HK
          have HK := Lib.hid HK
          have h50 : us 50 = .bool true := HJ.out.val HF.out 0 (by decide) (HP.out 0 (by kernel_rfl))
          simp only [At, List.foldl_cons, List.foldl_nil, List.setIfInBounds_toArray, List.set_cons_zero, List.set_cons_succ]
          refine ⟨?_⟩
          go_simp
          exact HK.out (upd (upd us 50 (.bool true)) 51 (.bool true)) wx (by rw [upd_self h50]; exact HJ.out.go HSTL (by kernel_rfl) 1 HF.out (by decide) (by decide) HP.out (Below.refl _ _) (.bool true) (rfl))
        · refine opAt rfl ?_
          intro l us wx hJ hp hl K hK
          have HJ := Lib.hid hJ; have HP := Lib.hid hp; have HLI := Lib.hid hl; have HF := Lib.hid (hJ.live hl (by decide)); have HBX := Lib.hid (hJ.below HF.out); have HK := hK
          clear hJ hp hl hK
          simp only [At, List.foldl_cons, List.foldl_nil, List.setIfInBounds_toArray, List.set_cons_zero, List.set_cons_succ] at HK
          have HK := Lib.hid HK
          have h51 : us 51 = .bool true := HJ.out.val HF.out 1 (by decide) (HP.out 1 (by kernel_rfl))
          simp only [At, List.foldl_cons, List.foldl_nil, List.setIfInBounds_toArray, List.set_cons_zero, List.set_cons_succ]
          refine ⟨?_⟩
          go_simp
          exact HK.out (upd (upd us 51 (.bool true)) 52 (.int .i64 0)) wx (by rw [upd_self h51]; exact HJ.out.go HSTL (by kernel_rfl) 2 HF.out (by decide) (by decide) HP.out (Below.refl _ _) (.int .i64 0) (rfl))
        · refine opAt rfl ?_
          intro l us wx hJ hp hl K hK
          have HJ := Lib.hid hJ; have HP := Lib.hid hp; have HLI := Lib.hid hl; have HF := Lib.hid (hJ.live hl (by decide)); have HBX := Lib.hid (hJ.below HF.out); have HK := hK
          clear hJ hp hl hK
          simp only [At, List.foldl_cons, List.foldl_nil, List.setIfInBounds_toArray, List.set_cons_zero, List.set_cons_succ] at HK
          have HK := Lib.hid HK
          have h51 : us 51 = .bool true := HJ.out.val HF.out 1 (by decide) (HP.out 1 (by kernel_rfl))
          have h52 : us 52 = .int .i64 0 := HJ.out.val HF.out 2 (by decide) (HP.out 2 (by kernel_rfl))
          simp only [At, List.foldl_cons, List.foldl_nil, List.setIfInBounds_toArray, List.set_cons_zero, List.set_cons_succ]
          refine ⟨?_⟩
          go_simp
          exact HK.out (upd (upd (upd us 51 (.bool true)) 52 (.int .i64 0)) 53 (.bool true)) wx (by rw [upd_self h51, upd_self h52]; exact HJ.out.go HSTL (by kernel_rfl) 3 HF.out (by decide) (by decide) HP.out (Below.refl _ _) (.bool true) (rfl))
        · refine opAt rfl ?_
          intro l us wx hJ hp hl K hK
          have HJ := Lib.hid hJ; have HP := Lib.hid hp; have HLI := Lib.hid hl; have HF := Lib.hid (hJ.live hl (by decide)); have HBX := Lib.hid (hJ.below HF.out); have HK := hK
          clear hJ hp hl hK
          simp only [At, List.foldl_cons, List.foldl_nil, List.setIfInBounds_toArray, List.set_cons_zero, List.set_cons_succ] at HK
          have HK := Lib.hid HK
          have h51 : us 51 = .bool true := HJ.out.val HF.out 1 (by decide) (HP.out 1 (by kernel_rfl))
          have h53 : us 53 = .bool true := HJ.out.val HF.out 3 (by decide) (HP.out 3 (by kernel_rfl))
          simp only [At, List.foldl_cons, List.foldl_nil, List.setIfInBounds_toArray, List.set_cons_zero, List.set_cons_succ]
          refine ⟨?_⟩
          go_simp
          exact HK.out (upd (upd (upd us 51 (.bool true)) 53 (.bool true)) 54 (.bool true)) wx (by rw [upd_self h51, upd_self h53]; exact HJ.out.go HSTL (by kernel_rfl) 4 HF.out (by decide) (by decide) HP.out (Below.refl _ _) (.bool true) (rfl))
        · refine opAt rfl ?_
          intro l us wx hJ hp hl K hK
          have HJ := Lib.hid hJ; have HP := Lib.hid hp; have HLI := Lib.hid hl; have HF := Lib.hid (hJ.live hl (by decide)); have HBX := Lib.hid (hJ.below HF.out); have HK := hK
          clear hJ hp hl hK
          simp only [At, List.foldl_cons, List.foldl_nil, List.setIfInBounds_toArray, List.set_cons_zero, List.set_cons_succ] at HK
          have HK := Lib.hid HK
          have h54 : us 54 = .bool true := HJ.out.val HF.out 4 (by decide) (HP.out 4 (by kernel_rfl))
          simp only [At, List.foldl_cons, List.foldl_nil, List.setIfInBounds_toArray, List.set_cons_zero, List.set_cons_succ]
          refine ⟨?_⟩
          go_simp
          exact HK.out (upd (upd us 54 (.bool true)) 55 (.bool true)) wx (by rw [upd_self h54]; exact HJ.out.go HSTL (by kernel_rfl) 5 HF.out (by decide) (by decide) HP.out (Below.refl _ _) (.bool true) (rfl))
        · refine opAt rfl ?_
          intro l us wx hJ hp hl K hK
          have HJ := Lib.hid hJ; have HP := Lib.hid hp; have HLI := Lib.hid hl; have HF := Lib.hid (hJ.live hl (by decide)); have HBX := Lib.hid (hJ.below HF.out); have HK := hK
          clear hJ hp hl hK
          simp only [At, List.foldl_cons, List.foldl_nil, List.setIfInBounds_toArray, List.set_cons_zero, List.set_cons_succ] at HK
          have HK := Lib.hid HK
          have h55 : us 55 = .bool true := HJ.out.val HF.out 5 (by decide) (HP.out 5 (by kernel_rfl))
          simp only [At, List.foldl_cons, List.foldl_nil, List.setIfInBounds_toArray, List.set_cons_zero, List.set_cons_succ]
          refine ⟨?_⟩
          go_simp
          exact HK.out (upd (upd us 55 (.bool true)) 56 (.int .i64 cm)) wx (by rw [upd_self h55]; exact HJ.out.go HSTL (by kernel_rfl) 6 HF.out (by decide) (by decide) HP.out (Below.refl _ _) (.int .i64 cm) (rfl))
        · refine opAt rfl ?_
          intro l us wx hJ hp hl K hK
          have HJ := Lib.hid hJ; have HP := Lib.hid hp; have HLI := Lib.hid hl; have HF := Lib.hid (hJ.live hl (by decide)); have HBX := Lib.hid (hJ.below HF.out); have HK := hK
          clear hJ hp hl hK
          simp only [At, List.foldl_cons, List.foldl_nil, List.setIfInBounds_toArray, List.set_cons_zero, List.set_cons_succ] at HK
          have HK := Lib.hid HK
          have h55 : us 55 = .bool true := HJ.out.val HF.out 5 (by decide) (HP.out 5 (by kernel_rfl))
          have c0 := keep_cell HBX.out c0
          have c1 := keep_cell HBX.out c1
          simp only [At, List.foldl_cons, List.foldl_nil, List.setIfInBounds_toArray, List.set_cons_zero, List.set_cons_succ]
          refine ⟨?_⟩
          go_simp
          exact HK.out (upd (upd us 55 (.bool true)) 57 (.agg #[.int .i64 xm, .int .i64 xe])) wx (by rw [upd_self h55]; exact HJ.out.go HSTL (by kernel_rfl) 7 HF.out (by decide) (by decide) HP.out (Below.refl _ _) (.agg #[.int .i64 xm, .int .i64 xe]) (rfl))
        · refine opAt rfl ?_
          intro l us wx hJ hp hl K hK
          have HJ := Lib.hid hJ; have HP := Lib.hid hp; have HLI := Lib.hid hl; have HF := Lib.hid (hJ.live hl (by decide)); have HBX := Lib.hid (hJ.below HF.out); have HK := hK
          clear hJ hp hl hK
          simp only [At, List.foldl_cons, List.foldl_nil, List.setIfInBounds_toArray, List.set_cons_zero, List.set_cons_succ] at HK
          have HK := Lib.hid HK
          have h55 : us 55 = .bool true := HJ.out.val HF.out 5 (by decide) (HP.out 5 (by kernel_rfl))
          have h57 : us 57 = .agg #[.int .i64 xm, .int .i64 xe] := HJ.out.val HF.out 7 (by decide) (HP.out 7 (by kernel_rfl))
          simp only [At, List.foldl_cons, List.foldl_nil, List.setIfInBounds_toArray, List.set_cons_zero, List.set_cons_succ]
          refine ⟨?_⟩
          go_simp
          go_wp2_with ((go_at_call 45; (with_reducible refine (HOX.out _).mono ?_); rintro en w9 ⟨v9, rfl, hv9, hbz⟩; have HV := Lib.hid hv9; clear hv9; have HC := Lib.hid hbz; clear hbz))
          exact HK.out (upd (upd (upd us 55 (.bool true)) 57 (.agg #[.int .i64 xm, .int .i64 xe])) 58 (v9)) w9 (by rw [upd_self h55, upd_self h57]; exact HJ.out.go HSTL (by kernel_rfl) 8 HF.out (by decide) (by decide) HP.out HC.out (v9) (HV.out))
        · refine opAt rfl ?_
          intro l us wx hJ hp hl K hK
          have HJ := Lib.hid hJ; have HP := Lib.hid hp; have HLI := Lib.hid hl; have HF := Lib.hid (hJ.live hl (by decide)); have HBX := Lib.hid (hJ.below HF.out); have HK := hK
          clear hJ hp hl hK
          simp only [At, List.foldl_cons, List.foldl_nil, List.setIfInBounds_toArray, List.set_cons_zero, List.set_cons_succ] at HK
          have HK := Lib.hid HK
          have h55 : us 55 = .bool true := HJ.out.val HF.out 5 (by decide) (HP.out 5 (by kernel_rfl))
          have y0 := keep_cell HBX.out y0
          have y1 := keep_cell HBX.out y1
          simp only [At, List.foldl_cons, List.foldl_nil, List.setIfInBounds_toArray, List.set_cons_zero, List.set_cons_succ]
          refine ⟨?_⟩
          go_simp
          exact HK.out (upd (upd us 55 (.bool true)) 59 (.agg #[.int .i64 ym, .int .i64 ye])) wx (by rw [upd_self h55]; exact HJ.out.go HSTL (by kernel_rfl) 9 HF.out (by decide) (by decide) HP.out (Below.refl _ _) (.agg #[.int .i64 ym, .int .i64 ye]) (rfl))
        · refine opAt rfl ?_
          intro l us wx hJ hp hl K hK
          have HJ := Lib.hid hJ; have HP := Lib.hid hp; have HLI := Lib.hid hl; have HF := Lib.hid (hJ.live hl (by decide)); have HBX := Lib.hid (hJ.below HF.out); have HK := hK
          clear hJ hp hl hK
          simp only [At, List.foldl_cons, List.foldl_nil, List.setIfInBounds_toArray, List.set_cons_zero, List.set_cons_succ] at HK
          have HK := Lib.hid HK
          have h55 : us 55 = .bool true := HJ.out.val HF.out 5 (by decide) (HP.out 5 (by kernel_rfl))
          have h59 : us 59 = .agg #[.int .i64 ym, .int .i64 ye] := HJ.out.val HF.out 9 (by decide) (HP.out 9 (by kernel_rfl))
          simp only [At, List.foldl_cons, List.foldl_nil, List.setIfInBounds_toArray, List.set_cons_zero, List.set_cons_succ]
          refine ⟨?_⟩
          go_simp
          go_wp2_with ((go_at_call 45; (with_reducible refine (HOY.out _).mono ?_); rintro en w9 ⟨v9, rfl, hv9, hbz⟩; have HV := Lib.hid hv9; clear hv9; have HC := Lib.hid hbz; clear hbz))
          exact HK.out (upd (upd (upd us 55 (.bool true)) 59 (.agg #[.int .i64 ym, .int .i64 ye])) 60 (v9)) w9 (by rw [upd_self h55, upd_self h59]; exact HJ.out.go HSTL (by kernel_rfl) 10 HF.out (by decide) (by decide) HP.out HC.out (v9) (HV.out))
        · refine opAt rfl ?_
          intro l us wx hJ hp hl K hK
          have HJ := Lib.hid hJ; have HP := Lib.hid hp; have HLI := Lib.hid hl; have HF := Lib.hid (hJ.live hl (by decide)); have HBX := Lib.hid (hJ.below HF.out); have HK := hK
          clear hJ hp hl hK
          simp only [At, List.foldl_cons, List.foldl_nil, List.setIfInBounds_toArray, List.set_cons_zero, List.set_cons_succ] at HK
          have HK := Lib.hid HK
          have h55 : us 55 = .bool true := HJ.out.val HF.out 5 (by decide) (HP.out 5 (by kernel_rfl))
          have h58 : Dc wx (us 58) (xm) (xe) := HJ.out.val HF.out 8 (by decide) (HP.out 8 (by kernel_rfl))
          obtain ⟨A58, n58, q58, b58, e58, hr58⟩ := h58
          have h60 : Dc wx (us 60) (ym) (ye) := HJ.out.val HF.out 10 (by decide) (HP.out 10 (by kernel_rfl))
          obtain ⟨A60, n60, q60, b60, e60, hr60⟩ := h60
          have hd58 : Dc wx (.agg #[.slice A58 n58 q58, .bool b58, .int .i64 (xe)]) xm xe := ⟨A58, n58, q58, b58, rfl, hr58⟩
          have hd60 : Dc wx (.agg #[.slice A60 n60 q60, .bool b60, .int .i64 (ye)]) ym ye := ⟨A60, n60, q60, b60, rfl, hr60⟩
          have HD := Lib.hid (And.intro hd58 hd60); clear hd58 hd60 hr58 hr60
          simp only [At, List.foldl_cons, List.foldl_nil, List.setIfInBounds_toArray, List.set_cons_zero, List.set_cons_succ]
          refine ⟨?_⟩
          go_simp
          go_wp2_with ((go_at_call 44; (with_reducible refine (HORD.out _ _ _ HD.out.1 HD.out.2).mono ?_); rintro en w9 ⟨rfl, hbz⟩; have HC := Lib.hid hbz; clear hbz))
          exact HK.out (upd (upd (upd (upd us 55 (.bool true)) 58 (.agg #[.slice A58 n58 q58, .bool b58, .int .i64 (xe)])) 60 (.agg #[.slice A60 n60 q60, .bool b60, .int .i64 (ye)])) 61 (.int .i64 cm)) w9 (by rw [upd_self h55, upd_self e58, upd_self e60]; exact HJ.out.go HSTL (by kernel_rfl) 11 HF.out (by decide) (by decide) HP.out HC.out (.int .i64 cm) (rfl))
        · refine opAt rfl ?_
          intro l us wx hJ hp hl K hK
          have HJ := Lib.hid hJ; have HP := Lib.hid hp; have HLI := Lib.hid hl; have HF := Lib.hid (hJ.live hl (by decide)); have HBX := Lib.hid (hJ.below HF.out); have HK := hK
          clear hJ hp hl hK
          simp only [At, List.foldl_cons, List.foldl_nil, List.setIfInBounds_toArray, List.set_cons_zero, List.set_cons_succ] at HK
          have HK := Lib.hid HK
          have h55 : us 55 = .bool true := HJ.out.val HF.out 5 (by decide) (HP.out 5 (by kernel_rfl))
          have h56 : us 56 = .int .i64 cm := HJ.out.val HF.out 6 (by decide) (HP.out 6 (by kernel_rfl))
          have h61 : us 61 = .int .i64 cm := HJ.out.val HF.out 11 (by decide) (HP.out 11 (by kernel_rfl))
          simp only [At, List.foldl_cons, List.foldl_nil, List.setIfInBounds_toArray, List.set_cons_zero, List.set_cons_succ]
          refine ⟨?_⟩
          go_simp
          exact HK.out (upd (upd (upd (upd us 55 (.bool true)) 56 (.int .i64 cm)) 61 (.int .i64 cm)) 62 (.bool true)) wx (by rw [upd_self h55, upd_self h56, upd_self h61]; exact HJ.out.go HSTL (by kernel_rfl) 12 HF.out (by decide) (by decide) HP.out (Below.refl _ _) (.bool true) (rfl))
        · refine opAt rfl ?_
          intro l us wx hJ hp hl K hK
          have HJ := Lib.hid hJ; have HP := Lib.hid hp; have HLI := Lib.hid hl; have HF := Lib.hid (hJ.live hl (by decide)); have HBX := Lib.hid (hJ.below HF.out); have HK := hK
          clear hJ hp hl hK
          simp only [At, List.foldl_cons, List.foldl_nil, List.setIfInBounds_toArray, List.set_cons_zero, List.set_cons_succ] at HK
          have HK := Lib.hid HK
          have h55 : us 55 = .bool true := HJ.out.val HF.out 5 (by decide) (HP.out 5 (by kernel_rfl))
          have h62 : us 62 = .bool true := HJ.out.val HF.out 12 (by decide) (HP.out 12 (by kernel_rfl))
          simp only [At, List.foldl_cons, List.foldl_nil, List.setIfInBounds_toArray, List.set_cons_zero, List.set_cons_succ]
          refine ⟨?_⟩
          go_simp
          exact HK.out (upd (upd (upd us 55 (.bool true)) 62 (.bool true)) 63 (.bool true)) wx (by rw [upd_self h55, upd_self h62]; exact HJ.out.go HSTL (by kernel_rfl) 13 HF.out (by decide) (by decide) HP.out (Below.refl _ _) (.bool true) (rfl))
        · refine opAt rfl ?_
          intro l us wx hJ hp hl K hK
          have HJ := Lib.hid hJ; have HP := Lib.hid hp; have HLI := Lib.hid hl; have HF := Lib.hid (hJ.live hl (by decide)); have HBX := Lib.hid (hJ.below HF.out); have HK := hK
          clear hJ hp hl hK
          simp only [At, List.foldl_cons, List.foldl_nil, List.setIfInBounds_toArray, List.set_cons_zero, List.set_cons_succ] at HK
          have HK := Lib.hid HK
          have h63 : us 63 = .bool true := HJ.out.val HF.out 13 (by decide) (HP.out 13 (by kernel_rfl))
          simp only [At, List.foldl_cons, List.foldl_nil, List.setIfInBounds_toArray, List.set_cons_zero, List.set_cons_succ]
          refine ⟨?_⟩
          go_simp
          exact HK.out (upd (upd us 63 (.bool true)) 4 (.bool true)) wx (by rw [upd_self h63]; exact HJ.out.go HSTL (by kernel_rfl) 14 HF.out (by decide) (by decide) HP.out (Below.refl _ _) (.bool true) (rfl))
      case rest =>
        obtain ⟨rfl, HBC⟩ := hcut
        go_wp2_with fail
        go_ret
        exact ⟨rfl, belowT HBEL.out (belowT HBZ.out HBC.out)⟩
  · rw [if_neg h] at HCMP
    have HARG2 : Hid (∀ w' : World, Calls Tryz.prog 20 #[.agg #[.int .i64 xm, .int .i64 xe], .agg #[.int .i64 ym, .int .i64 ye]] w' fun en w2 => en = .returned (.int .i64 1) ∧ Below w'.heap.size w' w2) := by
      have := HARG2.out
      unfold argV at this
      rw [if_neg h] at this
      exact this
    clear h hcs hord
    go_enter Tryz.func7, Tryz.ntmps7
    go_upto_region 3 with (first
      | (go_at_call 42; (with_reducible refine (HCMP.out _).mono ?_); rintro en w2 ⟨rfl, hbz⟩; have c0 := keep_cell hbz c0; have c1 := keep_cell hbz c1; have y0 := keep_cell hbz y0; have y1 := keep_cell hbz y1; have Ac0 := fun o => keep_cell ((Below.refl _ _).alloc (Nat.le_refl _) o) c0; have Ac1 := fun o => keep_cell ((Below.refl _ _).alloc (Nat.le_refl _) o) c1; have Ay0 := fun o => keep_cell ((Below.refl _ _).alloc (Nat.le_refl _) o) y0; have Ay1 := fun o => keep_cell ((Below.refl _ _).alloc (Nat.le_refl _) o) y1; have HB := Lib.hid hbz; clear hbz)
      | (go_at_call 43; (with_reducible refine (HNEG.out _).mono ?_); rintro en w3 ⟨rfl, hbz⟩; have c0 := keep_cell hbz c0; have c1 := keep_cell hbz c1; have y0 := keep_cell hbz y0; have y1 := keep_cell hbz y1; have Ac0 := fun o => keep_cell ((Below.refl _ _).alloc (Nat.le_refl _) o) c0; have Ac1 := fun o => keep_cell ((Below.refl _ _).alloc (Nat.le_refl _) o) c1; have Ay0 := fun o => keep_cell ((Below.refl _ _).alloc (Nat.le_refl _) o) y0; have Ay1 := fun o => keep_cell ((Below.refl _ _).alloc (Nat.le_refl _) o) y1; have HB := Lib.hid (belowT HB.out hbz); clear hbz))
    obtain ⟨ZW, hZW, n0, n1, hzb⟩ := nb1 w3 (.int .i64 z1) (.int .i64 z2) 23
    rw [hZW]
    clear hZW
    have c0 := keep_cell hzb c0; have c1 := keep_cell hzb c1; have y0 := keep_cell hzb y0; have y1 := keep_cell hzb y1
    have HBZ := Lib.hid (belowT HB.out hzb)
    clear HB hzb Ac0 Ac1 Ay0 Ay1
    go_cut [36] from 20 to 36 (fun v wx => v = .bool false ∧ Hid (Below ZW.heap.size ZW wx))
    case first =>
      have HSTL : StableL [(fun _ v => v = .agg #[.int .i64 xm, .int .i64 xe]), (fun _ v => v = .bool bx), (fun _ v => v = .agg #[.int .i64 xm, .int .i64 xe]), (fun _ v => v = .bool bx), (fun _ v => v = .bool false), (fun _ v => v = .bool false), (fun _ v => v = .agg #[.int .i64 z1, .int .i64 z2]), (fun _ v => v = .int .i64 er), (fun _ v => v = .agg #[.int .i64 xm, .int .i64 xe]), (fun _ v => v = .agg #[.int .i64 xm, .int .i64 xe]), (fun _ v => v = .int .i64 bad), (fun _ v => v = .agg #[.int .i64 xm, .int .i64 xe]), (fun _ v => v = .agg #[.int .i64 kk, .int .i64 xe]), (fun _ v => v = .agg #[.int .i64 kk, .int .i64 xe, .bool true]), (fun _ v => v = .bool true), (fun _ v => v = .bool false), (fun _ v => v = .bool false)] := ⟨(fun _ _ _ _ h => h), (fun _ _ _ _ h => h), (fun _ _ _ _ h => h), (fun _ _ _ _ h => h), (fun _ _ _ _ h => h), (fun _ _ _ _ h => h), (fun _ _ _ _ h => h), (fun _ _ _ _ h => h), (fun _ _ _ _ h => h), (fun _ _ _ _ h => h), (fun _ _ _ _ h => h), (fun _ _ _ _ h => h), (fun _ _ _ _ h => h), (fun _ _ _ _ h => h), (fun _ _ _ _ h => h), (fun _ _ _ _ h => h), (fun _ _ _ _ h => h), trivial⟩
      refine wp_region_p [20, 21, 22, 23, 24, 25, 26, 27, 28, 29, 30, 31, 32, 33, 34, 35, 36] [20, 21, 22, 23, 24, 25, 26, 27, 28, 29, 30, 31, 32, 33, 34, 35, 36] [(fun _ v => v = .agg #[.int .i64 xm, .int .i64 xe]), (fun _ v => v = .bool bx), (fun _ v => v = .agg #[.int .i64 xm, .int .i64 xe]), (fun _ v => v = .bool bx), (fun _ v => v = .bool false), (fun _ v => v = .bool false), (fun _ v => v = .agg #[.int .i64 z1, .int .i64 z2]), (fun _ v => v = .int .i64 er), (fun _ v => v = .agg #[.int .i64 xm, .int .i64 xe]), (fun _ v => v = .agg #[.int .i64 xm, .int .i64 xe]), (fun _ v => v = .int .i64 bad), (fun _ v => v = .agg #[.int .i64 xm, .int .i64 xe]), (fun _ v => v = .agg #[.int .i64 kk, .int .i64 xe]), (fun _ v => v = .agg #[.int .i64 kk, .int .i64 xe, .bool true]), (fun _ v => v = .bool true), (fun _ v => v = .bool false), (fun _ v => v = .bool false)] 17 (fun _ _ => True) 17 rfl (by kernel_rfl) (by kernel_rfl) ?_ ⟨?_, ?_, ?_, ?_, ?_, ?_, ?_, ?_, ?_, ?_, ?_, ?_, ?_, ?_, ?_, ?_, ?_, trivial⟩
      · intro l us wx hl hJ
        have HNF := hJ.nofin (by kernel_rfl)
        have HB := Lib.hid (hJ.below HNF)
        have h36 : us 36 = .bool false := hJ.val HNF 16 (by decide) (hl 16 (by decide))
        clear hl hJ
        simp only [At, List.foldl_cons, List.foldl_nil, List.setIfInBounds_toArray, List.set_cons_zero, List.set_cons_succ]
        go_wp2_with fail
        go_meet
        exact ⟨by first | rfl | assumption, HB⟩
      · refine opAt rfl ?_
        intro l us wx hJ hp hl K hK
        have HJ := Lib.hid hJ; have HP := Lib.hid hp; have HLI := Lib.hid hl; have HF := Lib.hid (hJ.live hl (by decide)); have HBX := Lib.hid (hJ.below HF.out); have HK := hK
        clear hJ hp hl hK
        simp only [At, List.foldl_cons, List.foldl_nil, List.setIfInBounds_toArray, List.set_cons_zero, List.set_cons_succ] at HK
        have HK := Lib.hid HK
        have c0 := keep_cell HBX.out c0
        have c1 := keep_cell HBX.out c1
        simp only [At, List.foldl_cons, List.foldl_nil, List.setIfInBounds_toArray, List.set_cons_zero, List.set_cons_succ]
        refine ⟨?_⟩
        go_simp
        exact HK.out (upd us 20 (.agg #[.int .i64 xm, .int .i64 xe])) wx (by exact HJ.out.go HSTL (by kernel_rfl) 0 HF.out (by decide) (by decide) HP.out (Below.refl _ _) (.agg #[.int .i64 xm, .int .i64 xe]) (rfl))
      · refine opAt rfl ?_
        intro l us wx hJ hp hl K hK
        have HJ := Lib.hid hJ; have HP := Lib.hid hp; have HLI := Lib.hid hl; have HF := Lib.hid (hJ.live hl (by decide)); have HBX := Lib.hid (hJ.below HF.out); have HK := hK
        clear hJ hp hl hK
        simp only [At, List.foldl_cons, List.foldl_nil, List.setIfInBounds_toArray, List.set_cons_zero, List.set_cons_succ] at HK
        have HK := Lib.hid HK
        have h20 : us 20 = .agg #[.int .i64 xm, .int .i64 xe] := HJ.out.val HF.out 0 (by decide) (HP.out 0 (by kernel_rfl))
        simp only [At, List.foldl_cons, List.foldl_nil, List.setIfInBounds_toArray, List.set_cons_zero, List.set_cons_succ]
        refine ⟨?_⟩
        go_simp
        go_wp2_with ((go_at_call 33; (with_reducible refine (HVX.out _).mono ?_); rintro en w9 ⟨rfl, hbz⟩; have HC := Lib.hid hbz; clear hbz))
        exact HK.out (upd (upd us 20 (.agg #[.int .i64 xm, .int .i64 xe])) 21 (.bool bx)) w9 (by rw [upd_self h20]; exact HJ.out.go HSTL (by kernel_rfl) 1 HF.out (by decide) (by decide) HP.out HC.out (.bool bx) (rfl))
      · refine opAt rfl ?_
        intro l us wx hJ hp hl K hK
        have HJ := Lib.hid hJ; have HP := Lib.hid hp; have HLI := Lib.hid hl; have HF := Lib.hid (hJ.live hl (by decide)); have HBX := Lib.hid (hJ.below HF.out); have HK := hK
        clear hJ hp hl hK
        simp only [At, List.foldl_cons, List.foldl_nil, List.setIfInBounds_toArray, List.set_cons_zero, List.set_cons_succ] at HK
        have HK := Lib.hid HK
        have c0 := keep_cell HBX.out c0
        have c1 := keep_cell HBX.out c1
        simp only [At, List.foldl_cons, List.foldl_nil, List.setIfInBounds_toArray, List.set_cons_zero, List.set_cons_succ]
        refine ⟨?_⟩
        go_simp
        exact HK.out (upd us 22 (.agg #[.int .i64 xm, .int .i64 xe])) wx (by exact HJ.out.go HSTL (by kernel_rfl) 2 HF.out (by decide) (by decide) HP.out (Below.refl _ _) (.agg #[.int .i64 xm, .int .i64 xe]) (rfl))
      · refine opAt rfl ?_
        intro l us wx hJ hp hl K hK
        have HJ := Lib.hid hJ; have HP := Lib.hid hp; have HLI := Lib.hid hl; have HF := Lib.hid (hJ.live hl (by decide)); have HBX := Lib.hid (hJ.below HF.out); have HK := hK
        clear hJ hp hl hK
        simp only [At, List.foldl_cons, List.foldl_nil, List.setIfInBounds_toArray, List.set_cons_zero, List.set_cons_succ] at HK
        have HK := Lib.hid HK
        have h22 : us 22 = .agg #[.int .i64 xm, .int .i64 xe] := HJ.out.val HF.out 2 (by decide) (HP.out 2 (by kernel_rfl))
        simp only [At, List.foldl_cons, List.foldl_nil, List.setIfInBounds_toArray, List.set_cons_zero, List.set_cons_succ]
        refine ⟨?_⟩
        go_simp
        go_wp2_with ((go_at_call 31; (with_reducible refine (HSX.out _).mono ?_); rintro en w9 ⟨rfl, hbz⟩; have HC := Lib.hid hbz; clear hbz))
        exact HK.out (upd (upd us 22 (.agg #[.int .i64 xm, .int .i64 xe])) 23 (.bool bx)) w9 (by rw [upd_self h22]; exact HJ.out.go HSTL (by kernel_rfl) 3 HF.out (by decide) (by decide) HP.out HC.out (.bool bx) (rfl))
      · refine opAt rfl ?_
        intro l us wx hJ hp hl K hK
        have HJ := Lib.hid hJ; have HP := Lib.hid hp; have HLI := Lib.hid hl; have HF := Lib.hid (hJ.live hl (by decide)); have HBX := Lib.hid (hJ.below HF.out); have HK := hK
        clear hJ hp hl hK
        simp only [At, List.foldl_cons, List.foldl_nil, List.setIfInBounds_toArray, List.set_cons_zero, List.set_cons_succ] at HK
        have HK := Lib.hid HK
        have h21 : us 21 = .bool bx := HJ.out.val HF.out 1 (by decide) (HP.out 1 (by kernel_rfl))
        have h23 : us 23 = .bool bx := HJ.out.val HF.out 3 (by decide) (HP.out 3 (by kernel_rfl))
        simp only [At, List.foldl_cons, List.foldl_nil, List.setIfInBounds_toArray, List.set_cons_zero, List.set_cons_succ]
        refine ⟨?_⟩
        go_simp
        exact HK.out (upd (upd (upd us 21 (.bool bx)) 23 (.bool bx)) 24 (.bool false)) wx (by rw [upd_self h21, upd_self h23]; exact HJ.out.go HSTL (by kernel_rfl) 4 HF.out (by decide) (by decide) HP.out (Below.refl _ _) (.bool false) (rfl))
      · refine opAt rfl ?_
        intro l us wx hJ hp hl K hK
        have HJ := Lib.hid hJ; have HP := Lib.hid hp; have HLI := Lib.hid hl; have HF := Lib.hid (hJ.live hl (by decide)); have HBX := Lib.hid (hJ.below HF.out); have HK := hK
        clear hJ hp hl hK
        simp only [At, List.foldl_cons, List.foldl_nil, List.setIfInBounds_toArray, List.set_cons_zero, List.set_cons_succ] at HK
        have HK := Lib.hid HK
        have h24 : us 24 = .bool false := HJ.out.val HF.out 4 (by decide) (HP.out 4 (by kernel_rfl))
        simp only [At, List.foldl_cons, List.foldl_nil, List.setIfInBounds_toArray, List.set_cons_zero, List.set_cons_succ]
        refine ⟨?_⟩
        go_simp
        exact HK.out (upd (upd us 24 (.bool false)) 25 (.bool false)) wx (by rw [upd_self h24]; exact HJ.out.go HSTL (by kernel_rfl) 5 HF.out (by decide) (by decide) HP.out (Below.refl _ _) (.bool false) (rfl))
      · refine opAt rfl ?_
        intro l us wx hJ hp hl K hK
        have HJ := Lib.hid hJ; have HP := Lib.hid hp; have HLI := Lib.hid hl; have HF := Lib.hid (hJ.live hl (by decide)); have HBX := Lib.hid (hJ.below HF.out); have HK := hK
        clear hJ hp hl hK
        simp only [At, List.foldl_cons, List.foldl_nil, List.setIfInBounds_toArray, List.set_cons_zero, List.set_cons_succ] at HK
        have HK := Lib.hid HK
        have h25 : us 25 = .bool false := HJ.out.val HF.out 5 (by decide) (HP.out 5 (by kernel_rfl))
        have n0 := keep_cell HBX.out n0
        have n1 := keep_cell HBX.out n1
        simp only [At, List.foldl_cons, List.foldl_nil, List.setIfInBounds_toArray, List.set_cons_zero, List.set_cons_succ]
        refine ⟨?_⟩
        go_simp
        exact HK.out (upd (upd us 25 (.bool false)) 26 (.agg #[.int .i64 z1, .int .i64 z2])) wx (by rw [upd_self h25]; exact HJ.out.go HSTL (by kernel_rfl) 6 HF.out (by decide) (by decide) HP.out (Below.refl _ _) (.agg #[.int .i64 z1, .int .i64 z2]) (rfl))
      · refine opAt rfl ?_
        intro l us wx hJ hp hl K hK
        have HJ := Lib.hid hJ; have HP := Lib.hid hp; have HLI := Lib.hid hl; have HF := Lib.hid (hJ.live hl (by decide)); have HBX := Lib.hid (hJ.below HF.out); have HK := hK
        clear hJ hp hl hK
        simp only [At, List.foldl_cons, List.foldl_nil, List.setIfInBounds_toArray, List.set_cons_zero, List.set_cons_succ] at HK
        have HK := Lib.hid HK
        have h25 : us 25 = .bool false := HJ.out.val HF.out 5 (by decide) (HP.out 5 (by kernel_rfl))
        simp only [At, List.foldl_cons, List.foldl_nil, List.setIfInBounds_toArray, List.set_cons_zero, List.set_cons_succ]
        refine ⟨?_⟩
        go_simp
        exact HK.out (upd (upd us 25 (.bool false)) 27 (.int .i64 er)) wx (by rw [upd_self h25]; exact HJ.out.go HSTL (by kernel_rfl) 7 HF.out (by decide) (by decide) HP.out (Below.refl _ _) (.int .i64 er) (rfl))
      · refine opAt rfl ?_
        intro l us wx hJ hp hl K hK
        have HJ := Lib.hid hJ; have HP := Lib.hid hp; have HLI := Lib.hid hl; have HF := Lib.hid (hJ.live hl (by decide)); have HBX := Lib.hid (hJ.below HF.out); have HK := hK
        clear hJ hp hl hK
        simp only [At, List.foldl_cons, List.foldl_nil, List.setIfInBounds_toArray, List.set_cons_zero, List.set_cons_succ] at HK
        have HK := Lib.hid HK
        have h25 : us 25 = .bool false := HJ.out.val HF.out 5 (by decide) (HP.out 5 (by kernel_rfl))
        have c0 := keep_cell HBX.out c0
        have c1 := keep_cell HBX.out c1
        simp only [At, List.foldl_cons, List.foldl_nil, List.setIfInBounds_toArray, List.set_cons_zero, List.set_cons_succ]
        refine ⟨?_⟩
        go_simp
        exact HK.out (upd (upd us 25 (.bool false)) 28 (.agg #[.int .i64 xm, .int .i64 xe])) wx (by rw [upd_self h25]; exact HJ.out.go HSTL (by kernel_rfl) 8 HF.out (by decide) (by decide) HP.out (Below.refl _ _) (.agg #[.int .i64 xm, .int .i64 xe]) (rfl))
      · refine opAt rfl ?_
        intro l us wx hJ hp hl K hK
        have HJ := Lib.hid hJ; have HP := Lib.hid hp; have HLI := Lib.hid hl; have HF := Lib.hid (hJ.live hl (by decide)); have HBX := Lib.hid (hJ.below HF.out); have HK := hK
        clear hJ hp hl hK
        simp only [At, List.foldl_cons, List.foldl_nil, List.setIfInBounds_toArray, List.set_cons_zero, List.set_cons_succ] at HK
        have HK := Lib.hid HK
        have h25 : us 25 = .bool false := HJ.out.val HF.out 5 (by decide) (HP.out 5 (by kernel_rfl))
        have c0 := keep_cell HBX.out c0
        have c1 := keep_cell HBX.out c1
        simp only [At, List.foldl_cons, List.foldl_nil, List.setIfInBounds_toArray, List.set_cons_zero, List.set_cons_succ]
        refine ⟨?_⟩
        go_simp
        exact HK.out (upd (upd us 25 (.bool false)) 29 (.agg #[.int .i64 xm, .int .i64 xe])) wx (by rw [upd_self h25]; exact HJ.out.go HSTL (by kernel_rfl) 9 HF.out (by decide) (by decide) HP.out (Below.refl _ _) (.agg #[.int .i64 xm, .int .i64 xe]) (rfl))
      · refine opAt rfl ?_
        intro l us wx hJ hp hl K hK
        have HJ := Lib.hid hJ; have HP := Lib.hid hp; have HLI := Lib.hid hl; have HF := Lib.hid (hJ.live hl (by decide)); have HBX := Lib.hid (hJ.below HF.out); have HK := hK
        clear hJ hp hl hK
        simp only [At, List.foldl_cons, List.foldl_nil, List.setIfInBounds_toArray, List.set_cons_zero, List.set_cons_succ] at HK
        have HK := Lib.hid HK
        have h25 : us 25 = .bool false := HJ.out.val HF.out 5 (by decide) (HP.out 5 (by kernel_rfl))
        have h28 : us 28 = .agg #[.int .i64 xm, .int .i64 xe] := HJ.out.val HF.out 8 (by decide) (HP.out 8 (by kernel_rfl))
        have h29 : us 29 = .agg #[.int .i64 xm, .int .i64 xe] := HJ.out.val HF.out 9 (by decide) (HP.out 9 (by kernel_rfl))
        simp only [At, List.foldl_cons, List.foldl_nil, List.setIfInBounds_toArray, List.set_cons_zero, List.set_cons_succ]
        refine ⟨?_⟩
        go_simp
        go_wp2_with ((go_at_call 20; (with_reducible refine (HARG.out _).mono ?_); rintro en w9 ⟨rfl, hbz⟩; have HC := Lib.hid hbz; clear hbz))
        exact HK.out (upd (upd (upd (upd us 25 (.bool false)) 28 (.agg #[.int .i64 xm, .int .i64 xe])) 29 (.agg #[.int .i64 xm, .int .i64 xe])) 30 (.int .i64 bad)) w9 (by rw [upd_self h25, upd_self h28, upd_self h29]; exact HJ.out.go HSTL (by kernel_rfl) 10 HF.out (by decide) (by decide) HP.out HC.out (.int .i64 bad) (rfl))
      · refine opAt rfl ?_
        intro l us wx hJ hp hl K hK
        have HJ := Lib.hid hJ; have HP := Lib.hid hp; have HLI := Lib.hid hl; have HF := Lib.hid (hJ.live hl (by decide)); have HBX := Lib.hid (hJ.below HF.out); have HK := hK
        clear hJ hp hl hK
        simp only [At, List.foldl_cons, List.foldl_nil, List.setIfInBounds_toArray, List.set_cons_zero, List.set_cons_succ] at HK
        have HK := Lib.hid HK
        have h25 : us 25 = .bool false := HJ.out.val HF.out 5 (by decide) (HP.out 5 (by kernel_rfl))
        have c0 := keep_cell HBX.out c0
        have c1 := keep_cell HBX.out c1
        simp only [At, List.foldl_cons, List.foldl_nil, List.setIfInBounds_toArray, List.set_cons_zero, List.set_cons_succ]
        refine ⟨?_⟩
        go_simp
        exact HK.out (upd (upd us 25 (.bool false)) 31 (.agg #[.int .i64 xm, .int .i64 xe])) wx (by rw [upd_self h25]; exact HJ.out.go HSTL (by kernel_rfl) 11 HF.out (by decide) (by decide) HP.out (Below.refl _ _) (.agg #[.int .i64 xm, .int .i64 xe]) (rfl))
      · refine opAt rfl ?_
        intro l us wx hJ hp hl K hK
        have HJ := Lib.hid hJ; have HP := Lib.hid hp; have HLI := Lib.hid hl; have HF := Lib.hid (hJ.live hl (by decide)); have HBX := Lib.hid (hJ.below HF.out); have HK := hK
        clear hJ hp hl hK
        simp only [At, List.foldl_cons, List.foldl_nil, List.setIfInBounds_toArray, List.set_cons_zero, List.set_cons_succ] at HK
        have HK := Lib.hid HK
        have h25 : us 25 = .bool false := HJ.out.val HF.out 5 (by decide) (HP.out 5 (by kernel_rfl))
        have h31 : us 31 = .agg #[.int .i64 xm, .int .i64 xe] := HJ.out.val HF.out 11 (by decide) (HP.out 11 (by kernel_rfl))
        simp only [At, List.foldl_cons, List.foldl_nil, List.setIfInBounds_toArray, List.set_cons_zero, List.set_cons_succ]
        refine ⟨?_⟩
        go_simp
        go_wp2_with ((go_at_call 39; (with_reducible refine (HSNEG.out _).mono ?_); rintro en w9 ⟨rfl, hbz⟩; have HC := Lib.hid hbz; clear hbz))
        exact HK.out (upd (upd (upd us 25 (.bool false)) 31 (.agg #[.int .i64 xm, .int .i64 xe])) 32 (.agg #[.int .i64 kk, .int .i64 xe])) w9 (by rw [upd_self h25, upd_self h31]; exact HJ.out.go HSTL (by kernel_rfl) 12 HF.out (by decide) (by decide) HP.out HC.out (.agg #[.int .i64 kk, .int .i64 xe]) (rfl))
      · refine opAt rfl ?_
        intro l us wx hJ hp hl K hK
        have HJ := Lib.hid hJ; have HP := Lib.hid hp; have HLI := Lib.hid hl; have HF := Lib.hid (hJ.live hl (by decide)); have HBX := Lib.hid (hJ.below HF.out); have HK := hK
        clear hJ hp hl hK
        simp only [At, List.foldl_cons, List.foldl_nil, List.setIfInBounds_toArray, List.set_cons_zero, List.set_cons_succ] at HK
        have HK := Lib.hid HK
        have h25 : us 25 = .bool false := HJ.out.val HF.out 5 (by decide) (HP.out 5 (by kernel_rfl))
        have h32 : us 32 = .agg #[.int .i64 kk, .int .i64 xe] := HJ.out.val HF.out 12 (by decide) (HP.out 12 (by kernel_rfl))
        simp only [At, List.foldl_cons, List.foldl_nil, List.setIfInBounds_toArray, List.set_cons_zero, List.set_cons_succ]
        refine ⟨?_⟩
        go_simp
        exact HK.out (upd (upd (upd us 25 (.bool false)) 32 (.agg #[.int .i64 kk, .int .i64 xe])) 33 (.agg #[.int .i64 kk, .int .i64 xe, .bool true])) wx (by rw [upd_self h25, upd_self h32]; exact HJ.out.go HSTL (by kernel_rfl) 13 HF.out (by decide) (by decide) HP.out (Below.refl _ _) (.agg #[.int .i64 kk, .int .i64 xe, .bool true]) (rfl))
      · refine opAt rfl ?_
        intro l us wx hJ hp hl K hK
        have HJ := Lib.hid hJ; have HP := Lib.hid hp; have HLI := Lib.hid hl; have HF := Lib.hid (hJ.live hl (by decide)); have HBX := Lib.hid (hJ.below HF.out); have HK := hK
        clear hJ hp hl hK
        simp only [At, List.foldl_cons, List.foldl_nil, List.setIfInBounds_toArray, List.set_cons_zero, List.set_cons_succ] at HK
        have HK := Lib.hid HK
        have h25 : us 25 = .bool false := HJ.out.val HF.out 5 (by decide) (HP.out 5 (by kernel_rfl))
        have h26 : us 26 = .agg #[.int .i64 z1, .int .i64 z2] := HJ.out.val HF.out 6 (by decide) (HP.out 6 (by kernel_rfl))
        have h27 : us 27 = .int .i64 er := HJ.out.val HF.out 7 (by decide) (HP.out 7 (by kernel_rfl))
        have h30 : us 30 = .int .i64 bad := HJ.out.val HF.out 10 (by decide) (HP.out 10 (by kernel_rfl))
        have h33 : us 33 = .agg #[.int .i64 kk, .int .i64 xe, .bool true] := HJ.out.val HF.out 13 (by decide) (HP.out 13 (by kernel_rfl))
        simp only [At, List.foldl_cons, List.foldl_nil, List.setIfInBounds_toArray, List.set_cons_zero, List.set_cons_succ]
        refine ⟨?_⟩
        go_simp
        go_wp2_with ((go_at_call 21; (with_reducible refine (HAGR.out _).mono ?_); rintro en w9 ⟨rfl, hbz⟩; have HC := Lib.hid hbz; clear hbz))
        exact HK.out (upd (upd (upd (upd (upd (upd us 25 (.bool false)) 26 (.agg #[.int .i64 z1, .int .i64 z2])) 27 (.int .i64 er)) 30 (.int .i64 bad)) 33 (.agg #[.int .i64 kk, .int .i64 xe, .bool true])) 34 (.bool true)) w9 (by rw [upd_self h25, upd_self h26, upd_self h27, upd_self h30, upd_self h33]; exact HJ.out.go HSTL (by kernel_rfl) 14 HF.out (by decide) (by decide) HP.out HC.out (.bool true) (rfl))
      · refine opAt rfl ?_
        intro l us wx hJ hp hl K hK
        have HJ := Lib.hid hJ; have HP := Lib.hid hp; have HLI := Lib.hid hl; have HF := Lib.hid (hJ.live hl (by decide)); have HBX := Lib.hid (hJ.below HF.out); have HK := hK
        clear hJ hp hl hK
        simp only [At, List.foldl_cons, List.foldl_nil, List.setIfInBounds_toArray, List.set_cons_zero, List.set_cons_succ] at HK
        have HK := Lib.hid HK
        have h25 : us 25 = .bool false := HJ.out.val HF.out 5 (by decide) (HP.out 5 (by kernel_rfl))
        have h34 : us 34 = .bool true := HJ.out.val HF.out 14 (by decide) (HP.out 14 (by kernel_rfl))
        simp only [At, List.foldl_cons, List.foldl_nil, List.setIfInBounds_toArray, List.set_cons_zero, List.set_cons_succ]
        refine ⟨?_⟩
        go_simp
        exact HK.out (upd (upd (upd us 25 (.bool false)) 34 (.bool true)) 35 (.bool false)) wx (by rw [upd_self h25, upd_self h34]; exact HJ.out.go HSTL (by kernel_rfl) 15 HF.out (by decide) (by decide) HP.out (Below.refl _ _) (.bool false) (rfl))
      · refine opAt rfl ?_
        intro l us wx hJ hp hl K hK
        have HJ := Lib.hid hJ; have HP := Lib.hid hp; have HLI := Lib.hid hl; have HF := Lib.hid (hJ.live hl (by decide)); have HBX := Lib.hid (hJ.below HF.out); have HK := hK
        clear hJ hp hl hK
        simp only [At, List.foldl_cons, List.foldl_nil, List.setIfInBounds_toArray, List.set_cons_zero, List.set_cons_succ] at HK
        have HK := Lib.hid HK
        have h25 : us 25 = .bool false := HJ.out.val HF.out 5 (by decide) (HP.out 5 (by kernel_rfl))
        have h35 : us 35 = .bool false := HJ.out.val HF.out 15 (by decide) (HP.out 15 (by kernel_rfl))
        simp only [At, List.foldl_cons, List.foldl_nil, List.setIfInBounds_toArray, List.set_cons_zero, List.set_cons_succ]
        refine ⟨?_⟩
        go_simp
        exact HK.out (upd (upd (upd us 25 (.bool false)) 35 (.bool false)) 36 (.bool false)) wx (by rw [upd_self h25, upd_self h35]; exact HJ.out.go HSTL (by kernel_rfl) 16 HF.out (by decide) (by decide) HP.out (Below.refl _ _) (.bool false) (rfl))
    case rest =>
      obtain ⟨rfl, HBC⟩ := hcut
      obtain ⟨T, hT⟩ : ∃ T, wc = T := ⟨_, rfl⟩
      rw [hT] at HBC ⊢
      clear hT
      have c0 := keep_cell HBC.out c0; have c1 := keep_cell HBC.out c1; have y0 := keep_cell HBC.out y0; have y1 := keep_cell HBC.out y1
      have HB := Lib.hid (belowT HBZ.out HBC.out)
      go_wp2_with (first
        | (go_at_call 20; (with_reducible refine (HARG2.out _).mono ?_); rintro en w8 ⟨rfl, hbz⟩; have HB := Lib.hid (belowT HB.out hbz); clear hbz)
        | (go_at_call 25; (with_reducible refine (HSAN.out _ (HT.out.below HB.out)).mono ?_); rintro en w99 ⟨rfl, hbz⟩; have HB := Lib.hid (belowT HB.out hbz); clear hbz))
      go_ret
      exact ⟨rfl, belowT HBEL.out HB.out⟩
end Go.Proofs.YtekbfommnmikbaaGreatDoor
/- The reference of layer 2: half, number, signed. -/
namespace Go.Proofs.YtekbfommnmikbaaGreatDoor
set_option linter.unusedVariables false
set_option linter.unusedSimpArgs false
open Go.RowKit Go.Shelf Go.Proofs
attribute [local go_sem ↓] Go.wp_at_zero Go.wp_at_succ

/-- Digits behind a point against a half. -/
def hC (xs : List Int) : Int := sgn (2 * val 10 xs - 10 ^ xs.length)
theorem hC_nil : hC [] = -1 := by decide
theorem val_top (xs : List Int) (L : Nat) (hL : xs.length = L + 1) : val 10 xs = val 10 (xs.take L) + 10 ^ L * xs[L]?.getD 0 := by
  have h := val_take_succ 10 xs L
  rw [List.take_of_length_le (by omega), List.getD_eq_getElem?_getD] at h
  exact h
theorem hC_less {xs : List Int} {L : Nat} (hi : InR 10 xs) (hL : xs.length = L + 1) (h : xs[L]?.getD 0 < 5) : hC xs = -1 := by
  have h1 := val_top xs L hL
  have h2 := val_lt (hi.take L)
  rw [List.length_take, Nat.min_eq_left (by omega)] at h2
  have hp : (0 : Int) < 10 ^ L := Int.pow_pos (by decide)
  have h3 := Int.mul_le_mul_of_nonneg_left (show xs[L]?.getD 0 ≤ 4 by omega) (Int.le_of_lt hp)
  refine sgn_lt ?_
  rw [hL, Int.pow_succ, h1]
  have h2' : val 10 (xs.take L) < 10 ^ L := h2
  omega
theorem hC_more {xs : List Int} {L : Nat} (hi : InR 10 xs) (hL : xs.length = L + 1) (h : 5 ≤ xs[L]?.getD 0) (h0 : 0 < val 10 (xs.take L)) : hC xs = 1 := by
  have h1 := val_top xs L hL
  have hp : (0 : Int) < 10 ^ L := Int.pow_pos (by decide)
  have h3 := Int.mul_le_mul_of_nonneg_left h (Int.le_of_lt hp)
  refine sgn_gt ?_
  rw [hL, Int.pow_succ, h1]
  omega
theorem hC_even {xs : List Int} {L : Nat} (hL : xs.length = L + 1) (h0 : val 10 (xs.take L) = 0) : hC xs = sgn (xs[L]?.getD 0 - 5) := by
  have h1 := val_top xs L hL
  have hp : (0 : Int) < 10 ^ L := Int.pow_pos (by decide)
  unfold hC
  rw [hL, Int.pow_succ, h1, h0]
  obtain ⟨x, hx⟩ : ∃ x, xs[L]?.getD 0 = x := ⟨_, rfl⟩
  rw [hx, show (2 * (0 + 10 ^ L * x) - 10 ^ L * 10 : Int) = (2 * 10 ^ L) * (x - 5) by rw [Int.mul_sub]; generalize (10 : Int) ^ L = p at *; grind]
  unfold sgn
  by_cases a : x - 5 < 0
  · rw [if_pos (Int.mul_neg_of_pos_of_neg (by omega) a), if_pos a]
  · by_cases b : 0 < x - 5
    · have := Int.mul_pos (show (0 : Int) < 2 * 10 ^ L by omega) b
      rw [if_neg (by omega), if_pos this, if_neg a, if_pos b]
    · have e : x - 5 = 0 := by omega
      rw [e, Int.mul_zero]
theorem val_take_zero {xs : List Int} (L : Nat) (h : ∀ j, j < L → xs[j]?.getD 0 = 0) : val 10 (xs.take L) = 0 := by
  induction L with
  | zero => rfl
  | succ L ih => rw [val_take_succ, ih (fun j hj => h j (by omega)), List.getD_eq_getElem?_getD, h L (by omega)]; omega
theorem val_take_pos {xs : List Int} (hi : InR 10 xs) {j L : Nat} (hj : j < L) (h : xs[j]?.getD 0 ≠ 0) : 0 < val 10 (xs.take L) := by
  induction L with
  | zero => omega
  | succ L ih =>
    have hp : (0 : Int) < 10 ^ L := Int.pow_pos (by decide)
    have h0 := (hi.at_ (by decide) L).1
    have h1 := val_nonneg (hi.take L)
    rw [val_take_succ]
    have h2 := Int.mul_nonneg (Int.le_of_lt hp) h0
    by_cases e : j = L
    · subst e
      rw [List.getD_eq_getElem?_getD] at h0 h2 ⊢
      have := Int.mul_pos hp (show 0 < xs[j]?.getD 0 by omega)
      have e9 : ((10 : Nat) : Int) = 10 := rfl
      rw [e9]
      omega
    · have := ih (by omega)
      have e9 : ((10 : Nat) : Int) = 10 := rfl
      rw [e9]
      omega

set_option maxRecDepth 100000 in
theorem compare_ref (a b : Int) (w : World) : Calls Tryz.prog 159 #[.int .i64 a, .int .i64 b] w fun e w' => e = .returned (.int .i64 (sgn (a - b))) ∧ w = w' := by
  by_cases h : a < b
  · rw [sgn_lt (by omega)]
    go_enter Tryz.func159, Tryz.ntmps159
    go_wp2_with fail
    go_ret
    exact ⟨rfl, rfl⟩
  · by_cases h2 : b < a
    · rw [sgn_gt (by omega)]
      go_enter Tryz.func159, Tryz.ntmps159
      go_wp2_with fail
      go_ret
      exact ⟨rfl, rfl⟩
    · obtain rfl : a = b := by omega
      rw [show a - a = 0 by omega, sgn_zero]
      go_enter Tryz.func159, Tryz.ntmps159
      go_wp2_with fail
      go_ret
      exact ⟨rfl, rfl⟩

set_option maxRecDepth 100000 in
set_option maxHeartbeats 2000000 in
theorem half_c (A : Option Addr) (c : Nat) (xs : List Int) (w : World) (hr : Row .i64 w A xs) (hi : InR 10 xs) (hl : xs.length ≤ 1000000) :
    Calls Tryz.prog 91 #[.slice A xs.length c] w fun e w' => e = .returned (.int .i64 (hC xs)) ∧ w = w' := by
  by_cases h0 : xs = []
  · subst h0
    clear hr hi hl
    rw [hC_nil]
    show Calls Tryz.prog 91 #[.slice A 0 c] w _
    go_enter Tryz.func91, Tryz.ntmps91
    go_wp2_with fail
    go_ret
    exact ⟨rfl, rfl⟩
  obtain ⟨L, hL⟩ : ∃ L, xs.length = L + 1 := ⟨xs.length - 1, by have := List.length_pos_iff.2 h0; omega⟩
  obtain ⟨a, rfl, hcell⟩ := hr L (by omega)
  have hb := hi.at_ (by decide) L
  rw [List.getD_eq_getElem?_getD] at hb
  have hless := hC_less hi hL
  have heven := hC_even hL
  have hmore := hC_more hi hL
  obtain ⟨x, hx⟩ : ∃ x, xs[L]?.getD 0 = x := ⟨_, rfl⟩
  rw [hx] at hcell hb hless heven hmore
  obtain ⟨hb0, hb1⟩ := hb
  have hLne : ((L : Int) + 1 == 0) = false := by rw [beq_eq_false_iff_ne]; omega
  have hL1 : L ≤ 1000000 := by omega
  rw [hL]
  by_cases h5 : x < 5
  · rw [hless h5]
    clear hless heven hmore hr hi hx h0 hL
    go_enter Tryz.func91, Tryz.ntmps91
    go_wp2_with fail
    go_ret
    exact ⟨rfl, rfl⟩
  · have HR := Lib.hid hr; have HI := Lib.hid hi; have HE := Lib.hid heven; have HM := Lib.hid (hmore (by omega)); have HL := Lib.hid hL
    obtain ⟨r, hrr⟩ : ∃ r, hC xs = r := ⟨_, rfl⟩
    rw [hrr] at HE HM ⊢
    have HRR := Lib.hid hrr
    clear hless heven hmore hr hi hx h0 hL hl hrr
    go_enter Tryz.func91, Tryz.ntmps91
    go_wp2_with fail
    go_loopg [3] L (fun g i wr => ∃ k : Nat, i = .int .i64 k ∧ k + g = L ∧ Hid (∀ j, j < k → xs[j]?.getD 0 = 0) ∧ w = wr)
    case atStart => exact ⟨0, rfl, by omega, fun j hj => absurd hj (by omega), rfl⟩
    case round =>
      obtain ⟨k, rfl, hkg, HZ, rfl⟩ := hrel
      by_cases hk : gk = 0
      · obtain rfl : k = L := by omega
        have HQ := Lib.hid (HE.out (val_take_zero _ HZ.out))
        clear hk hkg
        go_wp2_with (go_at_call 159; (with_reducible refine (compare_ref _ _ _).mono ?_); rintro e w' ⟨rfl, rfl⟩)
        go_ret
        exact ⟨by rw [HQ.out]; rfl, rfl⟩
      · obtain ⟨g, rfl⟩ : ∃ g, gk = g + 1 := ⟨gk - 1, by omega⟩
        have hkL : k < L := by omega
        obtain ⟨a', ha', hck⟩ := HR.out k (by have := HL.out; omega)
        cases ha'
        by_cases hz : xs[k]?.getD 0 = 0
        · have HZ' := Lib.hid hz
          rw [hz] at hck
          clear hz hk
          go_wp2_with fail
          go_roundg g
          case measure => omega
          case rel =>
            refine ⟨k + 1, by go_num, by omega, fun j hj => ?_, rfl⟩
            by_cases e : j = k
            · subst e; exact HZ'.out
            · exact HZ.out j (by omega)
        · have HQ := Lib.hid (HM.out (val_take_pos HI.out hkL hz))
          have hyy : (xs[k]?.getD 0 != 0) = true := by simpa using hz
          obtain ⟨y, hy⟩ : ∃ y, xs[k]?.getD 0 = y := ⟨_, rfl⟩
          rw [hy] at hck hyy
          clear hz hk hy
          go_wp2_with fail
          go_ret
          exact ⟨by rw [HQ.out]; rfl, rfl⟩

set_option maxRecDepth 100000 in
set_option maxHeartbeats 2000000 in
theorem number_c (A : Option Addr) (c : Nat) (xs : List Int) (w : World) (hr : Row .i64 w A xs) (hi : InR 10 xs) (hl : xs.length ≤ 17) :
    Calls Tryz.prog 92 #[.slice A xs.length c] w fun e w' => e = .returned (.int .i64 (val 10 xs)) ∧ w = w' := by
  have HR := Lib.hid hr; have HI := Lib.hid hi
  obtain ⟨L, hL⟩ : ∃ L, xs.length = L := ⟨_, rfl⟩
  rw [hL] at hl ⊢
  have HL := Lib.hid hL
  clear hr hi hL
  go_enter Tryz.func92, Tryz.ntmps92
  go_wp2_with fail
  go_loopg [3, 4] L (fun g m i wr => i = .int .i64 ((g : Int) - 1) ∧ g ≤ L ∧ m = .int .i64 (val 10 (xs.drop g)) ∧ w = wr)
  case atStart => exact ⟨rfl, Nat.le_refl _, by rw [List.drop_of_length_le (by have := HL.out; omega)]; rfl, rfl⟩
  case round =>
    obtain ⟨rfl, hg, rfl, rfl⟩ := hrel
    by_cases h0 : gk = 0
    · subst h0
      rw [List.drop_zero]
      go_wp2_with fail
      go_ret
      exact ⟨rfl, rfl⟩
    · obtain ⟨g, rfl⟩ : ∃ g, gk = g + 1 := ⟨gk - 1, by omega⟩
      rw [show (((g + 1 : Nat) : Int) - 1) = (g : Int) by omega]
      obtain ⟨a, rfl, hcell⟩ := HR.out g (by have := HL.out; omega)
      have hst := val_drop 10 xs g (by have := HL.out; omega)
      rw [List.getD_eq_getElem?_getD] at hst
      have hd := HI.out.at_ (by decide) g
      rw [List.getD_eq_getElem?_getD] at hd
      have hv0 := val_nonneg (HI.out.drop (g + 1))
      have hv1 := val_lt (HI.out.drop (g + 1))
      have hpw : (10 : Int) ^ (xs.drop (g + 1)).length ≤ 10 ^ 16 := by
        have := pow_mono' (b := 10) (by decide) (i := (xs.drop (g + 1)).length) (j := 16) (by have := HL.out; simp; omega)
        exact this
      obtain ⟨x, hx⟩ : ∃ x, xs[g]?.getD 0 = x := ⟨_, rfl⟩
      obtain ⟨m, hm⟩ : ∃ m, val 10 (xs.drop (g + 1)) = m := ⟨_, rfl⟩
      rw [hx, hm] at hst
      rw [hx] at hd hcell
      rw [hm] at hv0 hv1 ⊢
      have hm1 : m < 10000000000000000 := by
        have h9 : m < 10 ^ (xs.drop (g + 1)).length := hv1
        have : (10 : Int) ^ 16 = 10000000000000000 := by decide
        omega
      obtain ⟨hd0, hd1⟩ := hd
      have hd2 : x < 10 := hd1
      have HST := Lib.hid hst
      clear hst hx hm hv1 hpw hd1
      go_wp2_with fail
      go_roundg g
      case measure => omega
      case rel =>
        refine ⟨rfl, by omega, ?_, rfl⟩
        rw [HST.out, show ((10 : Nat) : Int) = 10 from rfl, Int.add_comm]


set_option maxRecDepth 100000 in
set_option maxHeartbeats 2000000 in
theorem signed_c (s : Bool) (m : Nat) (e : Int) (w : World) (hm : m ≤ 1000000000000) :
    Calls Tryz.prog 123 #[.bool s, .agg #[.int .i64 m, .int .i64 e]] w fun en w' => en = .returned (.agg #[.int .i64 (sgm s m), .int .i64 e, .bool true]) ∧ Below w.heap.size w w' := by
  obtain ⟨W, hW, k0, k1, hbel, hsz⟩ := bx2h w #[.int .i64 m, .int .i64 e] #[.int .i64 0, .int .i64 0, .bool false] 23 30
  have BOX := box3 k1
  have FIN := fin3 k1 (by omega) hbel
  obtain ⟨c0, c1⟩ := two_cells k0
  have f0 := free_of_heap k0 0; have f1 := free_of_heap k0 1
  obtain ⟨d0, d1, d2, g0, g1, g2⟩ := BOX.out W (Below.refl _ _)
  have HBEL := Lib.hid hbel; have HK1 := Lib.hid k1
  clear k0 k1 hbel
  cases s
  · rw [show sgm false m = (m : Int) from rfl]
    go_enter Tryz.func123, Tryz.ntmps123
    go_wp2_with fail
    obtain ⟨r0, r1, r2, hbb⟩ := FIN.out W (.int .i64 m) (.int .i64 e) (.bool true) (Below.refl _ _)
    refine bodyPost_ret (v := .agg #[.int .i64 m, .int .i64 e, .bool true]) (by simp [results, Tryz.results123, go_sem, r0, r1, r2]) rfl ?_
    exact ⟨rfl, hbb⟩
  · rw [show sgm true m = -(m : Int) from rfl]
    go_enter Tryz.func123, Tryz.ntmps123
    go_wp2_with fail
    have h9 := putB (putB (putB ((Below.heap_setCell W ⟨w.heap.size, 0, none⟩ (.int .i64 (-(m : Int))) (w.heap.size + 1) (by simp)).trans HK1.out) 0 (.int .i64 (-(m : Int)))) 1 (.int .i64 e)) 2 (.bool true)
    have r0 := cell_of_heap h9 0; have r1 := cell_of_heap h9 1; have r2 := cell_of_heap h9 2
    simp at r0 r1 r2
    refine bodyPost_ret (v := .agg #[.int .i64 (-(m : Int)), .int .i64 e, .bool true]) (by simp [results, Tryz.results123, go_sem, r0, r1, r2]) rfl ?_
    exact ⟨rfl, (((HBEL.out.setCell (p := ⟨w.heap.size, 0, none⟩) (Nat.le_refl _) _).setCell (p := ⟨w.heap.size + 1, 0, none⟩) (by simp) _).setCell (p := ⟨w.heap.size + 1, 1, none⟩) (by simp) _).setCell (p := ⟨w.heap.size + 1, 2, none⟩) (by simp) _⟩
end Go.Proofs.YtekbfommnmikbaaGreatDoor
