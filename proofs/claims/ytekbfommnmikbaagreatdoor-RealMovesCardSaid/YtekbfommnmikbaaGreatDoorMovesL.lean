/- The law RealMoves: its walk. -/
import Derived.Test.YtekbfommnmikbaaGreatDoorSpB
import Derived.Test.YtekbfommnmikbaaGreatDoorRegV
namespace Go.Proofs.YtekbfommnmikbaaGreatDoor
set_option linter.unusedVariables false
set_option linter.unusedSimpArgs false
open Go.RowKit Go.Shelf Go.Proofs Go.Sort
attribute [local go_sem ↓] Go.wp_at_zero Go.wp_at_succ

set_option maxRecDepth 100000 in
set_option maxHeartbeats 2000000 in
theorem moves1_c (b1 b2 : Nat) (m e n a b : Int) (k : Bool) (w : World) (h : RV m.natAbs e) (hr : rdV (stepS m e n) = .agg #[.int .i64 a, .int .i64 b, .bool k]) (c0 : w.cell? ⟨b1, 0, none⟩ = some (.int .i64 m)) (c1 : w.cell? ⟨b1, 1, none⟩ = some (.int .i64 e)) (c2 : w.cell? ⟨b2, 0, none⟩ = some (.int .i64 n)) :
    Calls Tryz.prog 58 #[.pointer (some ⟨b1, 0, none⟩), .pointer (some ⟨b2, 0, none⟩)] w fun en w' => en = .returned (.agg #[.int .i64 a, .int .i64 b, .bool k]) ∧ Below w.heap.size w w' := by
  obtain ⟨W, hW, k0⟩ : ∃ W, w.alloc (.cells #[.int .i64 0, .int .i64 0, .bool false] 30) = W ∧ W.heap[w.heap.size]? = some (.cells #[.int .i64 0, .int .i64 0, .bool false] 30 (0, 0)) := ⟨_, rfl, heap_alloc_new _ _⟩
  have hbel : Below w.heap.size w W := by rw [← hW]; exact (Below.refl _ _).alloc (Nat.le_refl _) _
  have c0 := keep_cell hbel c0; have c1 := keep_cell hbel c1; have c2 := keep_cell hbel c2
  have BOX := box3 k0
  have FIN := fin3 k0 (Nat.le_refl _) hbel
  have H := Lib.hid (fun w' => sstep_c m e n w' h)
  rw [hr] at H
  clear k0 hbel h hr
  go_enter Tryz.func58, Tryz.ntmps58
  go_wp2_with (go_at_call 59; (with_reducible refine (H.out _).mono ?_); rintro en w2 ⟨rfl, hbz⟩; have HB := Lib.hid hbz; clear hbz; obtain ⟨d0, d1, d2, f0, f1, f2⟩ := BOX.out _ HB.out)
  obtain ⟨r0, r1, r2, hbb⟩ := FIN.out _ (.int .i64 a) (.int .i64 b) (.bool k) HB.out
  refine bodyPost_ret (v := .agg #[.int .i64 a, .int .i64 b, .bool k]) (by simp [results, Tryz.results58, go_sem, r0, r1, r2]) rfl ?_
  exact ⟨rfl, hbb⟩
/-- What Step returns agrees with the reference's. -/
theorem step_agr (m e n : Int) : ∃ z1 z2 er a b k, stepR m e n = .tuple #[.agg #[.int .i64 z1, .int .i64 z2], .int .i64 er] ∧ (RV m.natAbs e → rdV (stepS m e n) = .agg #[.int .i64 a, .int .i64 b, .bool k]) ∧ (¬ RV m.natAbs e → a = 0 ∧ b = 0 ∧ k = false) ∧ Agr z1 z2 er (argV (RV m.natAbs e) (RV m.natAbs e)) a b k := by
  by_cases h : RV m.natAbs e
  · have h0 : argV (RV m.natAbs e) (RV m.natAbs e) = 0 := by unfold argV; rw [if_pos ⟨h, h⟩]
    rw [h0]
    unfold stepR stepS
    rw [if_neg (fun x => x h)]
    by_cases h1 : 360000000000000 < n ∨ n < -360000000000000
    · simp only [if_pos h1]
      exact ⟨0, 0, 3, 0, 0, false, rfl, fun _ => rfl, fun x => absurd h x, .inr (.inl ⟨rfl, rfl, rfl, rfl, rfl⟩)⟩
    · simp only [if_neg h1]
      by_cases h2 : 180000000000000 < plR m e + n ∨ plR m e + n < -180000000000000
      · simp only [if_pos h2]
        exact ⟨0, 0, 3, 0, 0, false, rfl, fun _ => rfl, fun x => absurd h x, .inr (.inl ⟨rfl, rfl, rfl, rfl, rfl⟩)⟩
      · simp only [if_neg h2]
        exact ⟨_, _, 0, _, _, true, rfl, fun _ => rfl, fun x => absurd h x, .inr (.inr ⟨rfl, rfl, rfl, rfl, rfl⟩)⟩
  · have h0 : argV (RV m.natAbs e) (RV m.natAbs e) = 1 := by unfold argV; rw [if_neg (fun x => h x.1)]
    rw [h0]
    unfold stepR
    rw [if_pos h]
    exact ⟨0, 0, 1, 0, 0, false, rfl, fun x => absurd x h, fun _ => ⟨rfl, rfl, rfl⟩, .inl ⟨by decide, rfl, rfl, rfl⟩⟩

set_option maxRecDepth 100000 in
set_option maxHeartbeats 8000000 in
theorem moves_walk (xm xe ym ye n : Int) (w : World) (ht : P10 w) (hx0 : -9223372036854775808 ≤ xm) (hx1 : xm ≤ 9223372036854775807) (hy0 : -9223372036854775808 ≤ ym) (hy1 : ym ≤ 9223372036854775807) :
    Calls Tryz.prog 9 #[.agg #[.int .i64 xm, .int .i64 xe], .agg #[.int .i64 ym, .int .i64 ye], .int .i64 n] w fun en w' => en = .returned (.bool true) ∧ Below w.heap.size w w' := by
  obtain ⟨W, hW, k0, k1, k2, hbel⟩ := bx3h w #[.int .i64 xm, .int .i64 xe] #[.int .i64 ym, .int .i64 ye] #[.int .i64 n] 23 23 3
  have HBEL := Lib.hid hbel
  have HT := Lib.hid (ht.below hbel)
  obtain ⟨c0, c1⟩ := two_cells k0
  obtain ⟨y0, y1⟩ := two_cells k1
  have n0 := cell_of_heap k2 0
  simp at n0
  have HSAN : Hid (∀ w' : World, P10 w' → Calls Tryz.prog 25 #[] w' fun e w2 => e = .returned (.bool true) ∧ Below w'.heap.size w' w2) := sanityR_c
  obtain ⟨z1, z2, er, a, b, k, hst, hok, hno, hag⟩ := step_agr xm xe n
  have HSTEP := Lib.hid (fun w' => stepR_c xm xe n w' hx0 hx1)
  rw [hst] at HSTEP
  have HSTEPS := Lib.hid (fun w' => steps_c xm xe ym ye w' hx0 hx1 hy0 hy1)
  have HARG := Lib.hid (fun w' => arg_c xm xe xm xe w' hx0 hx1 hx0 hx1)
  have HARG2 := Lib.hid (fun w' => arg_c xm xe ym ye w' hx0 hx1 hy0 hy1)
  have HAGR := Lib.hid (fun w' => agrees_c _ _ _ _ _ _ _ w' hag)
  have HNONE : Hid (∀ w' : World, w'.cell? ⟨w.heap.size, 0, none⟩ = some (.int .i64 xm) → w'.cell? ⟨w.heap.size, 1, none⟩ = some (.int .i64 xe) → w'.cell? ⟨w.heap.size + 2, 0, none⟩ = some (.int .i64 n) → Calls Tryz.prog 22 #[.int .i64 (argV (RV xm.natAbs xe) (RV xm.natAbs xe)), .func (.func 58) #[] #[.pointer (some ⟨w.heap.size, 0, none⟩), .pointer (some ⟨w.heap.size + 2, 0, none⟩)]] w' fun en w2 => en = .returned (.agg #[.int .i64 a, .int .i64 b, .bool k]) ∧ Below w'.heap.size w' w2) := by
    intro w' e0 e1 e2
    unfold argV
    by_cases h : RV xm.natAbs xe
    · rw [if_pos ⟨h, h⟩]
      exact none_ok _ _ a b k w' (enters_of Tryz.func58 (by kernel_rfl) rfl) fun w2 hb => moves1_c _ _ xm xe n a b k w2 h (hok h) (keep_cell hb e0) (keep_cell hb e1) (keep_cell hb e2)
    · rw [if_neg (fun x => h x.1)]
      obtain ⟨rfl, rfl, rfl⟩ := hno h
      exact none_bad _ _ w' (by decide)
  have hxy : (RV xm.natAbs xe ∧ RV ym.natAbs ye → ∀ w' : World, (Calls Tryz.prog 60 #[.agg #[.int .i64 xm, .int .i64 xe]] w' fun en w2 => en = .returned (.int .i64 (plR xm xe)) ∧ Below w'.heap.size w' w2) ∧ (Calls Tryz.prog 60 #[.agg #[.int .i64 ym, .int .i64 ye]] w' fun en w2 => en = .returned (.int .i64 (plR ym ye)) ∧ Below w'.heap.size w' w2)) := fun h w' => ⟨index_c xm xe w' h.1, index_c ym ye w' h.2⟩
  have hpb : RV xm.natAbs xe ∧ RV ym.natAbs ye → (-180000000000000 ≤ plR xm xe ∧ plR xm xe ≤ 180000000000000) ∧ (-180000000000000 ≤ plR ym ye ∧ plR ym ye ≤ 180000000000000) := fun h => ⟨plR_bounds h.1, plR_bounds h.2⟩
  obtain ⟨bad, hbad⟩ : ∃ bad, argV (RV xm.natAbs xe) (RV xm.natAbs xe) = bad := ⟨_, rfl⟩
  rw [hbad] at HARG HAGR HNONE
  clear k0 k1 k2 hbel hst hok hno hag hbad hx0 hx1 hy0 hy1
  by_cases h : RV xm.natAbs xe ∧ RV ym.natAbs ye
  · rw [if_pos h] at HSTEPS
    have HIX := Lib.hid (fun w' => (hxy h w').1)
    have HIY := Lib.hid (fun w' => (hxy h w').2)
    obtain ⟨⟨p1, p2⟩, p3, p4⟩ := hpb h
    have HARG2 : Hid (∀ w' : World, Calls Tryz.prog 20 #[.agg #[.int .i64 xm, .int .i64 xe], .agg #[.int .i64 ym, .int .i64 ye]] w' fun en w2 => en = .returned (.int .i64 0) ∧ Below w'.heap.size w' w2) := by
      have := HARG2.out
      unfold argV at this
      rw [if_pos h] at this
      exact this
    obtain ⟨p, hp⟩ : ∃ p, plR xm xe = p := ⟨_, rfl⟩
    obtain ⟨q, hq⟩ : ∃ q, plR ym ye = q := ⟨_, rfl⟩
    rw [hp] at HIX HSTEPS p1 p2
    rw [hq] at HIY HSTEPS p3 p4
    clear hp hq h hxy hpb
    go_enter Tryz.func9, Tryz.ntmps9
    go_upto_region 4 with (first
      | (go_at_call 56; (with_reducible refine (HSTEP.out _).mono ?_); rintro en w2 ⟨rfl, hbz⟩; have c0 := keep_cell hbz c0; have c1 := keep_cell hbz c1; have y0 := keep_cell hbz y0; have y1 := keep_cell hbz y1; have Ac0 := fun o => keep_cell ((Below.refl _ _).alloc (Nat.le_refl _) o) c0; have Ac1 := fun o => keep_cell ((Below.refl _ _).alloc (Nat.le_refl _) o) c1; have Ay0 := fun o => keep_cell ((Below.refl _ _).alloc (Nat.le_refl _) o) y0; have Ay1 := fun o => keep_cell ((Below.refl _ _).alloc (Nat.le_refl _) o) y1; have n0 := keep_cell hbz n0; have HB := Lib.hid hbz; clear hbz)
      | (go_at_call 57; (with_reducible refine (HSTEPS.out _).mono ?_); rintro en w3 ⟨rfl, hbz⟩; have c0 := keep_cell hbz (keep_cell ((Below.refl _ _).alloc (Nat.le_refl _) _) c0); have c1 := keep_cell hbz (keep_cell ((Below.refl _ _).alloc (Nat.le_refl _) _) c1); have y0 := keep_cell hbz (keep_cell ((Below.refl _ _).alloc (Nat.le_refl _) _) y0); have y1 := keep_cell hbz (keep_cell ((Below.refl _ _).alloc (Nat.le_refl _) _) y1); obtain ⟨q0, q1⟩ := two_cells (heapB hbz (heap_alloc_new _ _)); have Ac0 := fun o => keep_cell ((Below.refl _ _).alloc (Nat.le_refl _) o) c0; have Ac1 := fun o => keep_cell ((Below.refl _ _).alloc (Nat.le_refl _) o) c1; have Ay0 := fun o => keep_cell ((Below.refl _ _).alloc (Nat.le_refl _) o) y0; have Ay1 := fun o => keep_cell ((Below.refl _ _).alloc (Nat.le_refl _) o) y1; have Aq0 := fun o => keep_cell ((Below.refl _ _).alloc (Nat.le_refl _) o) q0; have Aq1 := fun o => keep_cell ((Below.refl _ _).alloc (Nat.le_refl _) o) q1; have n0 := keep_cell hbz (keep_cell ((Below.refl _ _).alloc (Nat.le_refl _) _) n0); have HB := Lib.hid (belowT (belowA HB.out _) hbz); clear hbz)
      | (go_at_call 20; (with_reducible refine (HARG.out _).mono ?_); rintro en ZW ⟨rfl, hbz⟩; have c0 := keep_cell hbz c0; have c1 := keep_cell hbz c1; have y0 := keep_cell hbz y0; have y1 := keep_cell hbz y1; have q0 := keep_cell hbz q0; have q1 := keep_cell hbz q1; have Ac0 := fun o => keep_cell ((Below.refl _ _).alloc (Nat.le_refl _) o) c0; have Ac1 := fun o => keep_cell ((Below.refl _ _).alloc (Nat.le_refl _) o) c1; have Ay0 := fun o => keep_cell ((Below.refl _ _).alloc (Nat.le_refl _) o) y0; have Ay1 := fun o => keep_cell ((Below.refl _ _).alloc (Nat.le_refl _) o) y1; have Aq0 := fun o => keep_cell ((Below.refl _ _).alloc (Nat.le_refl _) o) q0; have Aq1 := fun o => keep_cell ((Below.refl _ _).alloc (Nat.le_refl _) o) q1; have n0 := keep_cell hbz n0; have HB := Lib.hid (belowT HB.out hbz); clear hbz))
    have HBZ := HB
    clear HB
    go_cut [34] from 27 to 34 (fun v wx => v = .bool false ∧ Hid (Below ZW.heap.size ZW wx))
    case first =>
      refine wp_region_at [27, 28, 29, 30, 31, 32, 33, 34] (Jv ZW [27, 28, 29, 30, 31, 32, 33, 34] [.agg #[.int .i64 z1, .int .i64 z2], .int .i64 er, .int .i64 bad, .int .i64 bad, .func (.func 58) #[] #[.pointer (some ⟨w.heap.size, 0, none⟩), .pointer (some ⟨w.heap.size + 2, 0, none⟩)], .agg #[.int .i64 a, .int .i64 b, .bool k], .bool true, .bool false]) 8 rfl (by kernel_rfl) (by kernel_rfl) (fun us => Jv.start us) ?_ ⟨?_, ?_, ?_, ?_, ?_, ?_, ?_, ?_, trivial⟩
      · intro l us wx hl hJ
        have h34 : us 34 = .bool false := hJ.val 7 (by decide) (hl 7 (by decide))
        have HB := Lib.hid hJ.below
        clear hl hJ
        simp only [At, List.foldl_cons, List.foldl_nil, List.setIfInBounds_toArray, List.set_cons_zero, List.set_cons_succ]
        go_wp2_with fail
        go_meet
        exact ⟨by first | rfl | assumption, HB⟩
      · refine opAt rfl ?_
        intro l us wx hJ hp hl K hK
        have HJ := Lib.hid hJ; have HP := Lib.hid hp; have HBX := Lib.hid hJ.below; have HK := hK
        clear hJ hp hl hK
        simp only [At, List.foldl_cons, List.foldl_nil, List.setIfInBounds_toArray, List.set_cons_zero, List.set_cons_succ] at HK
        have HK := Lib.hid HK
        have q0 := keep_cell HBX.out q0
        have q1 := keep_cell HBX.out q1
        simp only [At, List.foldl_cons, List.foldl_nil, List.setIfInBounds_toArray, List.set_cons_zero, List.set_cons_succ]
        refine ⟨?_⟩
        go_simp
        exact HK.out (upd us 27 (.agg #[.int .i64 z1, .int .i64 z2])) wx (by exact HJ.out.go (by kernel_rfl) (Below.refl _ _) 0 (by decide))
      · refine opAt rfl ?_
        intro l us wx hJ hp hl K hK
        have HJ := Lib.hid hJ; have HP := Lib.hid hp; have HBX := Lib.hid hJ.below; have HK := hK
        clear hJ hp hl hK
        simp only [At, List.foldl_cons, List.foldl_nil, List.setIfInBounds_toArray, List.set_cons_zero, List.set_cons_succ] at HK
        have HK := Lib.hid HK
        simp only [At, List.foldl_cons, List.foldl_nil, List.setIfInBounds_toArray, List.set_cons_zero, List.set_cons_succ]
        refine ⟨?_⟩
        go_simp
        exact HK.out (upd us 28 (.int .i64 er)) wx (by exact HJ.out.go (by kernel_rfl) (Below.refl _ _) 1 (by decide))
      · refine opAt rfl ?_
        intro l us wx hJ hp hl K hK
        have HJ := Lib.hid hJ; have HP := Lib.hid hp; have HBX := Lib.hid hJ.below; have HK := hK
        clear hJ hp hl hK
        simp only [At, List.foldl_cons, List.foldl_nil, List.setIfInBounds_toArray, List.set_cons_zero, List.set_cons_succ] at HK
        have HK := Lib.hid HK
        simp only [At, List.foldl_cons, List.foldl_nil, List.setIfInBounds_toArray, List.set_cons_zero, List.set_cons_succ]
        refine ⟨?_⟩
        go_simp
        exact HK.out (upd us 29 (.int .i64 bad)) wx (by exact HJ.out.go (by kernel_rfl) (Below.refl _ _) 2 (by decide))
      · refine opAt rfl ?_
        intro l us wx hJ hp hl K hK
        have HJ := Lib.hid hJ; have HP := Lib.hid hp; have HBX := Lib.hid hJ.below; have HK := hK
        clear hJ hp hl hK
        simp only [At, List.foldl_cons, List.foldl_nil, List.setIfInBounds_toArray, List.set_cons_zero, List.set_cons_succ] at HK
        have HK := Lib.hid HK
        simp only [At, List.foldl_cons, List.foldl_nil, List.setIfInBounds_toArray, List.set_cons_zero, List.set_cons_succ]
        refine ⟨?_⟩
        go_simp
        exact HK.out (upd us 30 (.int .i64 bad)) wx (by exact HJ.out.go (by kernel_rfl) (Below.refl _ _) 3 (by decide))
      · refine opAt rfl ?_
        intro l us wx hJ hp hl K hK
        have HJ := Lib.hid hJ; have HP := Lib.hid hp; have HBX := Lib.hid hJ.below; have HK := hK
        clear hJ hp hl hK
        simp only [At, List.foldl_cons, List.foldl_nil, List.setIfInBounds_toArray, List.set_cons_zero, List.set_cons_succ] at HK
        have HK := Lib.hid HK
        simp only [At, List.foldl_cons, List.foldl_nil, List.setIfInBounds_toArray, List.set_cons_zero, List.set_cons_succ]
        refine ⟨?_⟩
        go_simp
        exact HK.out (upd us 31 (.func (.func 58) #[] #[.pointer (some ⟨w.heap.size, 0, none⟩), .pointer (some ⟨w.heap.size + 2, 0, none⟩)])) wx (by exact HJ.out.go (by kernel_rfl) (Below.refl _ _) 4 (by decide))
      · refine opAt rfl ?_
        intro l us wx hJ hp hl K hK
        have HJ := Lib.hid hJ; have HP := Lib.hid hp; have HBX := Lib.hid hJ.below; have HK := hK
        clear hJ hp hl hK
        simp only [At, List.foldl_cons, List.foldl_nil, List.setIfInBounds_toArray, List.set_cons_zero, List.set_cons_succ] at HK
        have HK := Lib.hid HK
        have h30 : us 30 = .int .i64 bad := HJ.out.val 3 (by decide) (HP.out 3 (by kernel_rfl))
        have h31 : us 31 = .func (.func 58) #[] #[.pointer (some ⟨w.heap.size, 0, none⟩), .pointer (some ⟨w.heap.size + 2, 0, none⟩)] := HJ.out.val 4 (by decide) (HP.out 4 (by kernel_rfl))
        have c0 := keep_cell HBX.out c0
        have c1 := keep_cell HBX.out c1
        have n0 := keep_cell HBX.out n0
        simp only [At, List.foldl_cons, List.foldl_nil, List.setIfInBounds_toArray, List.set_cons_zero, List.set_cons_succ]
        refine ⟨?_⟩
        go_simp
        go_wp2_with ((go_at_call 22; (with_reducible refine (HNONE.out _ c0 c1 n0).mono ?_); rintro en w9 ⟨rfl, hbz⟩; have HC := Lib.hid hbz; clear hbz))
        exact HK.out (upd (upd (upd us 30 (.int .i64 bad)) 31 (.func (.func 58) #[] #[.pointer (some ⟨w.heap.size, 0, none⟩), .pointer (some ⟨w.heap.size + 2, 0, none⟩)])) 32 (.agg #[.int .i64 a, .int .i64 b, .bool k])) w9 (by rw [upd_self h30, upd_self h31]; exact HJ.out.go (by kernel_rfl) HC.out 5 (by decide))
      · refine opAt rfl ?_
        intro l us wx hJ hp hl K hK
        have HJ := Lib.hid hJ; have HP := Lib.hid hp; have HBX := Lib.hid hJ.below; have HK := hK
        clear hJ hp hl hK
        simp only [At, List.foldl_cons, List.foldl_nil, List.setIfInBounds_toArray, List.set_cons_zero, List.set_cons_succ] at HK
        have HK := Lib.hid HK
        have h27 : us 27 = .agg #[.int .i64 z1, .int .i64 z2] := HJ.out.val 0 (by decide) (HP.out 0 (by kernel_rfl))
        have h28 : us 28 = .int .i64 er := HJ.out.val 1 (by decide) (HP.out 1 (by kernel_rfl))
        have h29 : us 29 = .int .i64 bad := HJ.out.val 2 (by decide) (HP.out 2 (by kernel_rfl))
        have h32 : us 32 = .agg #[.int .i64 a, .int .i64 b, .bool k] := HJ.out.val 5 (by decide) (HP.out 5 (by kernel_rfl))
        simp only [At, List.foldl_cons, List.foldl_nil, List.setIfInBounds_toArray, List.set_cons_zero, List.set_cons_succ]
        refine ⟨?_⟩
        go_simp
        go_wp2_with ((go_at_call 21; (with_reducible refine (HAGR.out _).mono ?_); rintro en w9 ⟨rfl, hbz⟩; have HC := Lib.hid hbz; clear hbz))
        exact HK.out (upd (upd (upd (upd (upd us 27 (.agg #[.int .i64 z1, .int .i64 z2])) 28 (.int .i64 er)) 29 (.int .i64 bad)) 32 (.agg #[.int .i64 a, .int .i64 b, .bool k])) 33 (.bool true)) w9 (by rw [upd_self h27, upd_self h28, upd_self h29, upd_self h32]; exact HJ.out.go (by kernel_rfl) HC.out 6 (by decide))
      · refine opAt rfl ?_
        intro l us wx hJ hp hl K hK
        have HJ := Lib.hid hJ; have HP := Lib.hid hp; have HBX := Lib.hid hJ.below; have HK := hK
        clear hJ hp hl hK
        simp only [At, List.foldl_cons, List.foldl_nil, List.setIfInBounds_toArray, List.set_cons_zero, List.set_cons_succ] at HK
        have HK := Lib.hid HK
        have h33 : us 33 = .bool true := HJ.out.val 6 (by decide) (HP.out 6 (by kernel_rfl))
        simp only [At, List.foldl_cons, List.foldl_nil, List.setIfInBounds_toArray, List.set_cons_zero, List.set_cons_succ]
        refine ⟨?_⟩
        go_simp
        exact HK.out (upd (upd us 33 (.bool true)) 34 (.bool false)) wx (by rw [upd_self h33]; exact HJ.out.go (by kernel_rfl) (Below.refl _ _) 7 (by decide))
    case rest =>
      obtain ⟨rfl, HBC⟩ := hcut
      obtain ⟨T, hT⟩ : ∃ T, wc = T := ⟨_, rfl⟩
      rw [hT] at HBC ⊢
      clear hT
      have c0 := keep_cell HBC.out c0; have c1 := keep_cell HBC.out c1; have y0 := keep_cell HBC.out y0; have y1 := keep_cell HBC.out y1
      have HB := Lib.hid (belowT HBZ.out HBC.out)
      go_upto_region 8 with (first
        | (go_at_call 20; (with_reducible refine (HARG2.out _).mono ?_); rintro en ZW ⟨rfl, hbz⟩; have c0 := keep_cell hbz c0; have c1 := keep_cell hbz c1; have y0 := keep_cell hbz y0; have y1 := keep_cell hbz y1; have Ac0 := fun o => keep_cell ((Below.refl _ _).alloc (Nat.le_refl _) o) c0; have Ac1 := fun o => keep_cell ((Below.refl _ _).alloc (Nat.le_refl _) o) c1; have Ay0 := fun o => keep_cell ((Below.refl _ _).alloc (Nat.le_refl _) o) y0; have Ay1 := fun o => keep_cell ((Below.refl _ _).alloc (Nat.le_refl _) o) y1; have HB := Lib.hid (belowT HB.out hbz); clear hbz))
      have HBZ := HB
      clear HB
      go_cut [6] from 48 to 61 (fun v wx => v = .bool true ∧ Hid (Below ZW.heap.size ZW wx))
      case first =>
        refine wp_region_at [48, 49, 50, 51, 52, 53, 54, 55, 56, 57, 58, 59, 60, 61, 6] (Jv ZW [48, 49, 50, 51, 52, 53, 54, 55, 56, 57, 58, 59, 60, 61, 6] [.bool true, .bool true, .int .i64 0, .bool true, .bool true, .bool true, .int .i64 (q - p), .agg #[.int .i64 ym, .int .i64 ye], .int .i64 q, .agg #[.int .i64 xm, .int .i64 xe], .int .i64 p, .int .i64 (q - p), .bool true, .bool true, .bool true]) 15 rfl (by kernel_rfl) (by kernel_rfl) (fun us => Jv.start us) ?_ ⟨?_, ?_, ?_, ?_, ?_, ?_, ?_, ?_, ?_, ?_, ?_, ?_, ?_, ?_, ?_, trivial⟩
        · intro l us wx hl hJ
          have h6 : us 6 = .bool true := hJ.val 14 (by decide) (hl 14 (by decide))
          have HB := Lib.hid hJ.below
          clear hl hJ
          simp only [At, List.foldl_cons, List.foldl_nil, List.setIfInBounds_toArray, List.set_cons_zero, List.set_cons_succ]
          go_wp2_with fail
          go_meet
          exact ⟨by first | rfl | assumption, HB⟩
        · refine opAt rfl ?_
          intro l us wx hJ hp hl K hK
          have HJ := Lib.hid hJ; have HP := Lib.hid hp; have HBX := Lib.hid hJ.below; have HK := hK
          clear hJ hp hl hK
          simp only [At, List.foldl_cons, List.foldl_nil, List.setIfInBounds_toArray, List.set_cons_zero, List.set_cons_succ] at HK
          have HK := Lib.hid HK
          simp only [At, List.foldl_cons, List.foldl_nil, List.setIfInBounds_toArray, List.set_cons_zero, List.set_cons_succ]
          refine ⟨?_⟩
          go_simp
          go_wp2_with ((go_at_call 25; (with_reducible refine (HSAN.out _ (HT.out.below (belowT HBZ.out HBX.out))).mono ?_); rintro en w9 ⟨rfl, hbz⟩; have HC := Lib.hid hbz; clear hbz))
          exact HK.out (upd us 48 (.bool true)) w9 (by exact HJ.out.go (by kernel_rfl) HC.out 0 (by decide))
        · refine opAt rfl ?_
          intro l us wx hJ hp hl K hK
          have HJ := Lib.hid hJ; have HP := Lib.hid hp; have HBX := Lib.hid hJ.below; have HK := hK
          clear hJ hp hl hK
          simp only [At, List.foldl_cons, List.foldl_nil, List.setIfInBounds_toArray, List.set_cons_zero, List.set_cons_succ] at HK
          have HK := Lib.hid HK
          have h48 : us 48 = .bool true := HJ.out.val 0 (by decide) (HP.out 0 (by kernel_rfl))
          simp only [At, List.foldl_cons, List.foldl_nil, List.setIfInBounds_toArray, List.set_cons_zero, List.set_cons_succ]
          refine ⟨?_⟩
          go_simp
          exact HK.out (upd (upd us 48 (.bool true)) 49 (.bool true)) wx (by rw [upd_self h48]; exact HJ.out.go (by kernel_rfl) (Below.refl _ _) 1 (by decide))
        · refine opAt rfl ?_
          intro l us wx hJ hp hl K hK
          have HJ := Lib.hid hJ; have HP := Lib.hid hp; have HBX := Lib.hid hJ.below; have HK := hK
          clear hJ hp hl hK
          simp only [At, List.foldl_cons, List.foldl_nil, List.setIfInBounds_toArray, List.set_cons_zero, List.set_cons_succ] at HK
          have HK := Lib.hid HK
          have h49 : us 49 = .bool true := HJ.out.val 1 (by decide) (HP.out 1 (by kernel_rfl))
          simp only [At, List.foldl_cons, List.foldl_nil, List.setIfInBounds_toArray, List.set_cons_zero, List.set_cons_succ]
          refine ⟨?_⟩
          go_simp
          exact HK.out (upd (upd us 49 (.bool true)) 50 (.int .i64 0)) wx (by rw [upd_self h49]; exact HJ.out.go (by kernel_rfl) (Below.refl _ _) 2 (by decide))
        · refine opAt rfl ?_
          intro l us wx hJ hp hl K hK
          have HJ := Lib.hid hJ; have HP := Lib.hid hp; have HBX := Lib.hid hJ.below; have HK := hK
          clear hJ hp hl hK
          simp only [At, List.foldl_cons, List.foldl_nil, List.setIfInBounds_toArray, List.set_cons_zero, List.set_cons_succ] at HK
          have HK := Lib.hid HK
          have h49 : us 49 = .bool true := HJ.out.val 1 (by decide) (HP.out 1 (by kernel_rfl))
          have h50 : us 50 = .int .i64 0 := HJ.out.val 2 (by decide) (HP.out 2 (by kernel_rfl))
          simp only [At, List.foldl_cons, List.foldl_nil, List.setIfInBounds_toArray, List.set_cons_zero, List.set_cons_succ]
          refine ⟨?_⟩
          go_simp
          exact HK.out (upd (upd (upd us 49 (.bool true)) 50 (.int .i64 0)) 51 (.bool true)) wx (by rw [upd_self h49, upd_self h50]; exact HJ.out.go (by kernel_rfl) (Below.refl _ _) 3 (by decide))
        · refine opAt rfl ?_
          intro l us wx hJ hp hl K hK
          have HJ := Lib.hid hJ; have HP := Lib.hid hp; have HBX := Lib.hid hJ.below; have HK := hK
          clear hJ hp hl hK
          simp only [At, List.foldl_cons, List.foldl_nil, List.setIfInBounds_toArray, List.set_cons_zero, List.set_cons_succ] at HK
          have HK := Lib.hid HK
          have h49 : us 49 = .bool true := HJ.out.val 1 (by decide) (HP.out 1 (by kernel_rfl))
          have h51 : us 51 = .bool true := HJ.out.val 3 (by decide) (HP.out 3 (by kernel_rfl))
          simp only [At, List.foldl_cons, List.foldl_nil, List.setIfInBounds_toArray, List.set_cons_zero, List.set_cons_succ]
          refine ⟨?_⟩
          go_simp
          exact HK.out (upd (upd (upd us 49 (.bool true)) 51 (.bool true)) 52 (.bool true)) wx (by rw [upd_self h49, upd_self h51]; exact HJ.out.go (by kernel_rfl) (Below.refl _ _) 4 (by decide))
        · refine opAt rfl ?_
          intro l us wx hJ hp hl K hK
          have HJ := Lib.hid hJ; have HP := Lib.hid hp; have HBX := Lib.hid hJ.below; have HK := hK
          clear hJ hp hl hK
          simp only [At, List.foldl_cons, List.foldl_nil, List.setIfInBounds_toArray, List.set_cons_zero, List.set_cons_succ] at HK
          have HK := Lib.hid HK
          have h52 : us 52 = .bool true := HJ.out.val 4 (by decide) (HP.out 4 (by kernel_rfl))
          simp only [At, List.foldl_cons, List.foldl_nil, List.setIfInBounds_toArray, List.set_cons_zero, List.set_cons_succ]
          refine ⟨?_⟩
          go_simp
          exact HK.out (upd (upd us 52 (.bool true)) 53 (.bool true)) wx (by rw [upd_self h52]; exact HJ.out.go (by kernel_rfl) (Below.refl _ _) 5 (by decide))
        · refine opAt rfl ?_
          intro l us wx hJ hp hl K hK
          have HJ := Lib.hid hJ; have HP := Lib.hid hp; have HBX := Lib.hid hJ.below; have HK := hK
          clear hJ hp hl hK
          simp only [At, List.foldl_cons, List.foldl_nil, List.setIfInBounds_toArray, List.set_cons_zero, List.set_cons_succ] at HK
          have HK := Lib.hid HK
          have h53 : us 53 = .bool true := HJ.out.val 5 (by decide) (HP.out 5 (by kernel_rfl))
          simp only [At, List.foldl_cons, List.foldl_nil, List.setIfInBounds_toArray, List.set_cons_zero, List.set_cons_succ]
          refine ⟨?_⟩
          go_simp
          exact HK.out (upd (upd us 53 (.bool true)) 54 (.int .i64 (q - p))) wx (by rw [upd_self h53]; exact HJ.out.go (by kernel_rfl) (Below.refl _ _) 6 (by decide))
        · refine opAt rfl ?_
          intro l us wx hJ hp hl K hK
          have HJ := Lib.hid hJ; have HP := Lib.hid hp; have HBX := Lib.hid hJ.below; have HK := hK
          clear hJ hp hl hK
          simp only [At, List.foldl_cons, List.foldl_nil, List.setIfInBounds_toArray, List.set_cons_zero, List.set_cons_succ] at HK
          have HK := Lib.hid HK
          have h53 : us 53 = .bool true := HJ.out.val 5 (by decide) (HP.out 5 (by kernel_rfl))
          have y0 := keep_cell HBX.out y0
          have y1 := keep_cell HBX.out y1
          simp only [At, List.foldl_cons, List.foldl_nil, List.setIfInBounds_toArray, List.set_cons_zero, List.set_cons_succ]
          refine ⟨?_⟩
          go_simp
          exact HK.out (upd (upd us 53 (.bool true)) 55 (.agg #[.int .i64 ym, .int .i64 ye])) wx (by rw [upd_self h53]; exact HJ.out.go (by kernel_rfl) (Below.refl _ _) 7 (by decide))
        · refine opAt rfl ?_
          intro l us wx hJ hp hl K hK
          have HJ := Lib.hid hJ; have HP := Lib.hid hp; have HBX := Lib.hid hJ.below; have HK := hK
          clear hJ hp hl hK
          simp only [At, List.foldl_cons, List.foldl_nil, List.setIfInBounds_toArray, List.set_cons_zero, List.set_cons_succ] at HK
          have HK := Lib.hid HK
          have h53 : us 53 = .bool true := HJ.out.val 5 (by decide) (HP.out 5 (by kernel_rfl))
          have h55 : us 55 = .agg #[.int .i64 ym, .int .i64 ye] := HJ.out.val 7 (by decide) (HP.out 7 (by kernel_rfl))
          simp only [At, List.foldl_cons, List.foldl_nil, List.setIfInBounds_toArray, List.set_cons_zero, List.set_cons_succ]
          refine ⟨?_⟩
          go_simp
          go_wp2_with ((go_at_call 60; (with_reducible refine (HIY.out _).mono ?_); rintro en w9 ⟨rfl, hbz⟩; have HC := Lib.hid hbz; clear hbz))
          exact HK.out (upd (upd (upd us 53 (.bool true)) 55 (.agg #[.int .i64 ym, .int .i64 ye])) 56 (.int .i64 q)) w9 (by rw [upd_self h53, upd_self h55]; exact HJ.out.go (by kernel_rfl) HC.out 8 (by decide))
        · refine opAt rfl ?_
          intro l us wx hJ hp hl K hK
          have HJ := Lib.hid hJ; have HP := Lib.hid hp; have HBX := Lib.hid hJ.below; have HK := hK
          clear hJ hp hl hK
          simp only [At, List.foldl_cons, List.foldl_nil, List.setIfInBounds_toArray, List.set_cons_zero, List.set_cons_succ] at HK
          have HK := Lib.hid HK
          have h53 : us 53 = .bool true := HJ.out.val 5 (by decide) (HP.out 5 (by kernel_rfl))
          have c0 := keep_cell HBX.out c0
          have c1 := keep_cell HBX.out c1
          simp only [At, List.foldl_cons, List.foldl_nil, List.setIfInBounds_toArray, List.set_cons_zero, List.set_cons_succ]
          refine ⟨?_⟩
          go_simp
          exact HK.out (upd (upd us 53 (.bool true)) 57 (.agg #[.int .i64 xm, .int .i64 xe])) wx (by rw [upd_self h53]; exact HJ.out.go (by kernel_rfl) (Below.refl _ _) 9 (by decide))
        · refine opAt rfl ?_
          intro l us wx hJ hp hl K hK
          have HJ := Lib.hid hJ; have HP := Lib.hid hp; have HBX := Lib.hid hJ.below; have HK := hK
          clear hJ hp hl hK
          simp only [At, List.foldl_cons, List.foldl_nil, List.setIfInBounds_toArray, List.set_cons_zero, List.set_cons_succ] at HK
          have HK := Lib.hid HK
          have h53 : us 53 = .bool true := HJ.out.val 5 (by decide) (HP.out 5 (by kernel_rfl))
          have h57 : us 57 = .agg #[.int .i64 xm, .int .i64 xe] := HJ.out.val 9 (by decide) (HP.out 9 (by kernel_rfl))
          simp only [At, List.foldl_cons, List.foldl_nil, List.setIfInBounds_toArray, List.set_cons_zero, List.set_cons_succ]
          refine ⟨?_⟩
          go_simp
          go_wp2_with ((go_at_call 60; (with_reducible refine (HIX.out _).mono ?_); rintro en w9 ⟨rfl, hbz⟩; have HC := Lib.hid hbz; clear hbz))
          exact HK.out (upd (upd (upd us 53 (.bool true)) 57 (.agg #[.int .i64 xm, .int .i64 xe])) 58 (.int .i64 p)) w9 (by rw [upd_self h53, upd_self h57]; exact HJ.out.go (by kernel_rfl) HC.out 10 (by decide))
        · refine opAt rfl ?_
          intro l us wx hJ hp hl K hK
          have HJ := Lib.hid hJ; have HP := Lib.hid hp; have HBX := Lib.hid hJ.below; have HK := hK
          clear hJ hp hl hK
          simp only [At, List.foldl_cons, List.foldl_nil, List.setIfInBounds_toArray, List.set_cons_zero, List.set_cons_succ] at HK
          have HK := Lib.hid HK
          have h53 : us 53 = .bool true := HJ.out.val 5 (by decide) (HP.out 5 (by kernel_rfl))
          have h56 : us 56 = .int .i64 q := HJ.out.val 8 (by decide) (HP.out 8 (by kernel_rfl))
          have h58 : us 58 = .int .i64 p := HJ.out.val 10 (by decide) (HP.out 10 (by kernel_rfl))
          have hw1 : IntKind.i64.wrap (q - p) = q - p := IntWalk.i64_in _ (by omega)
          simp only [At, List.foldl_cons, List.foldl_nil, List.setIfInBounds_toArray, List.set_cons_zero, List.set_cons_succ]
          refine ⟨?_⟩
          go_simp
          exact HK.out (upd (upd (upd (upd us 53 (.bool true)) 56 (.int .i64 q)) 58 (.int .i64 p)) 59 (.int .i64 (q - p))) wx (by rw [upd_self h53, upd_self h56, upd_self h58]; exact HJ.out.go (by kernel_rfl) (Below.refl _ _) 11 (by decide))
        · refine opAt rfl ?_
          intro l us wx hJ hp hl K hK
          have HJ := Lib.hid hJ; have HP := Lib.hid hp; have HBX := Lib.hid hJ.below; have HK := hK
          clear hJ hp hl hK
          simp only [At, List.foldl_cons, List.foldl_nil, List.setIfInBounds_toArray, List.set_cons_zero, List.set_cons_succ] at HK
          have HK := Lib.hid HK
          have h53 : us 53 = .bool true := HJ.out.val 5 (by decide) (HP.out 5 (by kernel_rfl))
          have h54 : us 54 = .int .i64 (q - p) := HJ.out.val 6 (by decide) (HP.out 6 (by kernel_rfl))
          have h59 : us 59 = .int .i64 (q - p) := HJ.out.val 11 (by decide) (HP.out 11 (by kernel_rfl))
          simp only [At, List.foldl_cons, List.foldl_nil, List.setIfInBounds_toArray, List.set_cons_zero, List.set_cons_succ]
          refine ⟨?_⟩
          go_simp
          exact HK.out (upd (upd (upd (upd us 53 (.bool true)) 54 (.int .i64 (q - p))) 59 (.int .i64 (q - p))) 60 (.bool true)) wx (by rw [upd_self h53, upd_self h54, upd_self h59]; exact HJ.out.go (by kernel_rfl) (Below.refl _ _) 12 (by decide))
        · refine opAt rfl ?_
          intro l us wx hJ hp hl K hK
          have HJ := Lib.hid hJ; have HP := Lib.hid hp; have HBX := Lib.hid hJ.below; have HK := hK
          clear hJ hp hl hK
          simp only [At, List.foldl_cons, List.foldl_nil, List.setIfInBounds_toArray, List.set_cons_zero, List.set_cons_succ] at HK
          have HK := Lib.hid HK
          have h53 : us 53 = .bool true := HJ.out.val 5 (by decide) (HP.out 5 (by kernel_rfl))
          have h60 : us 60 = .bool true := HJ.out.val 12 (by decide) (HP.out 12 (by kernel_rfl))
          simp only [At, List.foldl_cons, List.foldl_nil, List.setIfInBounds_toArray, List.set_cons_zero, List.set_cons_succ]
          refine ⟨?_⟩
          go_simp
          exact HK.out (upd (upd (upd us 53 (.bool true)) 60 (.bool true)) 61 (.bool true)) wx (by rw [upd_self h53, upd_self h60]; exact HJ.out.go (by kernel_rfl) (Below.refl _ _) 13 (by decide))
        · refine opAt rfl ?_
          intro l us wx hJ hp hl K hK
          have HJ := Lib.hid hJ; have HP := Lib.hid hp; have HBX := Lib.hid hJ.below; have HK := hK
          clear hJ hp hl hK
          simp only [At, List.foldl_cons, List.foldl_nil, List.setIfInBounds_toArray, List.set_cons_zero, List.set_cons_succ] at HK
          have HK := Lib.hid HK
          have h61 : us 61 = .bool true := HJ.out.val 13 (by decide) (HP.out 13 (by kernel_rfl))
          simp only [At, List.foldl_cons, List.foldl_nil, List.setIfInBounds_toArray, List.set_cons_zero, List.set_cons_succ]
          refine ⟨?_⟩
          go_simp
          exact HK.out (upd (upd us 61 (.bool true)) 6 (.bool true)) wx (by rw [upd_self h61]; exact HJ.out.go (by kernel_rfl) (Below.refl _ _) 14 (by decide))
      case rest =>
        obtain ⟨rfl, HBC⟩ := hcut
        go_wp2_with fail
        go_ret
        exact ⟨rfl, belowT HBEL.out (belowT HBZ.out HBC.out)⟩
  · rw [if_neg h] at HSTEPS
    have HARG2 : Hid (∀ w' : World, Calls Tryz.prog 20 #[.agg #[.int .i64 xm, .int .i64 xe], .agg #[.int .i64 ym, .int .i64 ye]] w' fun en w2 => en = .returned (.int .i64 1) ∧ Below w'.heap.size w' w2) := by
      have := HARG2.out
      unfold argV at this
      rw [if_neg h] at this
      exact this
    clear h hxy hpb
    go_enter Tryz.func9, Tryz.ntmps9
    go_upto_region 4 with (first
      | (go_at_call 56; (with_reducible refine (HSTEP.out _).mono ?_); rintro en w2 ⟨rfl, hbz⟩; have c0 := keep_cell hbz c0; have c1 := keep_cell hbz c1; have y0 := keep_cell hbz y0; have y1 := keep_cell hbz y1; have Ac0 := fun o => keep_cell ((Below.refl _ _).alloc (Nat.le_refl _) o) c0; have Ac1 := fun o => keep_cell ((Below.refl _ _).alloc (Nat.le_refl _) o) c1; have Ay0 := fun o => keep_cell ((Below.refl _ _).alloc (Nat.le_refl _) o) y0; have Ay1 := fun o => keep_cell ((Below.refl _ _).alloc (Nat.le_refl _) o) y1; have n0 := keep_cell hbz n0; have HB := Lib.hid hbz; clear hbz)
      | (go_at_call 57; (with_reducible refine (HSTEPS.out _).mono ?_); rintro en w3 ⟨rfl, hbz⟩; have c0 := keep_cell hbz (keep_cell ((Below.refl _ _).alloc (Nat.le_refl _) _) c0); have c1 := keep_cell hbz (keep_cell ((Below.refl _ _).alloc (Nat.le_refl _) _) c1); have y0 := keep_cell hbz (keep_cell ((Below.refl _ _).alloc (Nat.le_refl _) _) y0); have y1 := keep_cell hbz (keep_cell ((Below.refl _ _).alloc (Nat.le_refl _) _) y1); obtain ⟨q0, q1⟩ := two_cells (heapB hbz (heap_alloc_new _ _)); have Ac0 := fun o => keep_cell ((Below.refl _ _).alloc (Nat.le_refl _) o) c0; have Ac1 := fun o => keep_cell ((Below.refl _ _).alloc (Nat.le_refl _) o) c1; have Ay0 := fun o => keep_cell ((Below.refl _ _).alloc (Nat.le_refl _) o) y0; have Ay1 := fun o => keep_cell ((Below.refl _ _).alloc (Nat.le_refl _) o) y1; have Aq0 := fun o => keep_cell ((Below.refl _ _).alloc (Nat.le_refl _) o) q0; have Aq1 := fun o => keep_cell ((Below.refl _ _).alloc (Nat.le_refl _) o) q1; have n0 := keep_cell hbz (keep_cell ((Below.refl _ _).alloc (Nat.le_refl _) _) n0); have HB := Lib.hid (belowT (belowA HB.out _) hbz); clear hbz)
      | (go_at_call 20; (with_reducible refine (HARG.out _).mono ?_); rintro en ZW ⟨rfl, hbz⟩; have c0 := keep_cell hbz c0; have c1 := keep_cell hbz c1; have y0 := keep_cell hbz y0; have y1 := keep_cell hbz y1; have q0 := keep_cell hbz q0; have q1 := keep_cell hbz q1; have Ac0 := fun o => keep_cell ((Below.refl _ _).alloc (Nat.le_refl _) o) c0; have Ac1 := fun o => keep_cell ((Below.refl _ _).alloc (Nat.le_refl _) o) c1; have Ay0 := fun o => keep_cell ((Below.refl _ _).alloc (Nat.le_refl _) o) y0; have Ay1 := fun o => keep_cell ((Below.refl _ _).alloc (Nat.le_refl _) o) y1; have Aq0 := fun o => keep_cell ((Below.refl _ _).alloc (Nat.le_refl _) o) q0; have Aq1 := fun o => keep_cell ((Below.refl _ _).alloc (Nat.le_refl _) o) q1; have n0 := keep_cell hbz n0; have HB := Lib.hid (belowT HB.out hbz); clear hbz))
    have HBZ := HB
    clear HB
    go_cut [34] from 27 to 34 (fun v wx => v = .bool false ∧ Hid (Below ZW.heap.size ZW wx))
    case first =>
      refine wp_region_at [27, 28, 29, 30, 31, 32, 33, 34] (Jv ZW [27, 28, 29, 30, 31, 32, 33, 34] [.agg #[.int .i64 z1, .int .i64 z2], .int .i64 er, .int .i64 bad, .int .i64 bad, .func (.func 58) #[] #[.pointer (some ⟨w.heap.size, 0, none⟩), .pointer (some ⟨w.heap.size + 2, 0, none⟩)], .agg #[.int .i64 a, .int .i64 b, .bool k], .bool true, .bool false]) 8 rfl (by kernel_rfl) (by kernel_rfl) (fun us => Jv.start us) ?_ ⟨?_, ?_, ?_, ?_, ?_, ?_, ?_, ?_, trivial⟩
      · intro l us wx hl hJ
        have h34 : us 34 = .bool false := hJ.val 7 (by decide) (hl 7 (by decide))
        have HB := Lib.hid hJ.below
        clear hl hJ
        simp only [At, List.foldl_cons, List.foldl_nil, List.setIfInBounds_toArray, List.set_cons_zero, List.set_cons_succ]
        go_wp2_with fail
        go_meet
        exact ⟨by first | rfl | assumption, HB⟩
      · refine opAt rfl ?_
        intro l us wx hJ hp hl K hK
        have HJ := Lib.hid hJ; have HP := Lib.hid hp; have HBX := Lib.hid hJ.below; have HK := hK
        clear hJ hp hl hK
        simp only [At, List.foldl_cons, List.foldl_nil, List.setIfInBounds_toArray, List.set_cons_zero, List.set_cons_succ] at HK
        have HK := Lib.hid HK
        have q0 := keep_cell HBX.out q0
        have q1 := keep_cell HBX.out q1
        simp only [At, List.foldl_cons, List.foldl_nil, List.setIfInBounds_toArray, List.set_cons_zero, List.set_cons_succ]
        refine ⟨?_⟩
        go_simp
        exact HK.out (upd us 27 (.agg #[.int .i64 z1, .int .i64 z2])) wx (by exact HJ.out.go (by kernel_rfl) (Below.refl _ _) 0 (by decide))
      · refine opAt rfl ?_
        intro l us wx hJ hp hl K hK
        have HJ := Lib.hid hJ; have HP := Lib.hid hp; have HBX := Lib.hid hJ.below; have HK := hK
        clear hJ hp hl hK
        simp only [At, List.foldl_cons, List.foldl_nil, List.setIfInBounds_toArray, List.set_cons_zero, List.set_cons_succ] at HK
        have HK := Lib.hid HK
        simp only [At, List.foldl_cons, List.foldl_nil, List.setIfInBounds_toArray, List.set_cons_zero, List.set_cons_succ]
        refine ⟨?_⟩
        go_simp
        exact HK.out (upd us 28 (.int .i64 er)) wx (by exact HJ.out.go (by kernel_rfl) (Below.refl _ _) 1 (by decide))
      · refine opAt rfl ?_
        intro l us wx hJ hp hl K hK
        have HJ := Lib.hid hJ; have HP := Lib.hid hp; have HBX := Lib.hid hJ.below; have HK := hK
        clear hJ hp hl hK
        simp only [At, List.foldl_cons, List.foldl_nil, List.setIfInBounds_toArray, List.set_cons_zero, List.set_cons_succ] at HK
        have HK := Lib.hid HK
        simp only [At, List.foldl_cons, List.foldl_nil, List.setIfInBounds_toArray, List.set_cons_zero, List.set_cons_succ]
        refine ⟨?_⟩
        go_simp
        exact HK.out (upd us 29 (.int .i64 bad)) wx (by exact HJ.out.go (by kernel_rfl) (Below.refl _ _) 2 (by decide))
      · refine opAt rfl ?_
        intro l us wx hJ hp hl K hK
        have HJ := Lib.hid hJ; have HP := Lib.hid hp; have HBX := Lib.hid hJ.below; have HK := hK
        clear hJ hp hl hK
        simp only [At, List.foldl_cons, List.foldl_nil, List.setIfInBounds_toArray, List.set_cons_zero, List.set_cons_succ] at HK
        have HK := Lib.hid HK
        simp only [At, List.foldl_cons, List.foldl_nil, List.setIfInBounds_toArray, List.set_cons_zero, List.set_cons_succ]
        refine ⟨?_⟩
        go_simp
        exact HK.out (upd us 30 (.int .i64 bad)) wx (by exact HJ.out.go (by kernel_rfl) (Below.refl _ _) 3 (by decide))
      · refine opAt rfl ?_
        intro l us wx hJ hp hl K hK
        have HJ := Lib.hid hJ; have HP := Lib.hid hp; have HBX := Lib.hid hJ.below; have HK := hK
        clear hJ hp hl hK
        simp only [At, List.foldl_cons, List.foldl_nil, List.setIfInBounds_toArray, List.set_cons_zero, List.set_cons_succ] at HK
        have HK := Lib.hid HK
        simp only [At, List.foldl_cons, List.foldl_nil, List.setIfInBounds_toArray, List.set_cons_zero, List.set_cons_succ]
        refine ⟨?_⟩
        go_simp
        exact HK.out (upd us 31 (.func (.func 58) #[] #[.pointer (some ⟨w.heap.size, 0, none⟩), .pointer (some ⟨w.heap.size + 2, 0, none⟩)])) wx (by exact HJ.out.go (by kernel_rfl) (Below.refl _ _) 4 (by decide))
      · refine opAt rfl ?_
        intro l us wx hJ hp hl K hK
        have HJ := Lib.hid hJ; have HP := Lib.hid hp; have HBX := Lib.hid hJ.below; have HK := hK
        clear hJ hp hl hK
        simp only [At, List.foldl_cons, List.foldl_nil, List.setIfInBounds_toArray, List.set_cons_zero, List.set_cons_succ] at HK
        have HK := Lib.hid HK
        have h30 : us 30 = .int .i64 bad := HJ.out.val 3 (by decide) (HP.out 3 (by kernel_rfl))
        have h31 : us 31 = .func (.func 58) #[] #[.pointer (some ⟨w.heap.size, 0, none⟩), .pointer (some ⟨w.heap.size + 2, 0, none⟩)] := HJ.out.val 4 (by decide) (HP.out 4 (by kernel_rfl))
        have c0 := keep_cell HBX.out c0
        have c1 := keep_cell HBX.out c1
        have n0 := keep_cell HBX.out n0
        simp only [At, List.foldl_cons, List.foldl_nil, List.setIfInBounds_toArray, List.set_cons_zero, List.set_cons_succ]
        refine ⟨?_⟩
        go_simp
        go_wp2_with ((go_at_call 22; (with_reducible refine (HNONE.out _ c0 c1 n0).mono ?_); rintro en w9 ⟨rfl, hbz⟩; have HC := Lib.hid hbz; clear hbz))
        exact HK.out (upd (upd (upd us 30 (.int .i64 bad)) 31 (.func (.func 58) #[] #[.pointer (some ⟨w.heap.size, 0, none⟩), .pointer (some ⟨w.heap.size + 2, 0, none⟩)])) 32 (.agg #[.int .i64 a, .int .i64 b, .bool k])) w9 (by rw [upd_self h30, upd_self h31]; exact HJ.out.go (by kernel_rfl) HC.out 5 (by decide))
      · refine opAt rfl ?_
        intro l us wx hJ hp hl K hK
        have HJ := Lib.hid hJ; have HP := Lib.hid hp; have HBX := Lib.hid hJ.below; have HK := hK
        clear hJ hp hl hK
        simp only [At, List.foldl_cons, List.foldl_nil, List.setIfInBounds_toArray, List.set_cons_zero, List.set_cons_succ] at HK
        have HK := Lib.hid HK
        have h27 : us 27 = .agg #[.int .i64 z1, .int .i64 z2] := HJ.out.val 0 (by decide) (HP.out 0 (by kernel_rfl))
        have h28 : us 28 = .int .i64 er := HJ.out.val 1 (by decide) (HP.out 1 (by kernel_rfl))
        have h29 : us 29 = .int .i64 bad := HJ.out.val 2 (by decide) (HP.out 2 (by kernel_rfl))
        have h32 : us 32 = .agg #[.int .i64 a, .int .i64 b, .bool k] := HJ.out.val 5 (by decide) (HP.out 5 (by kernel_rfl))
        simp only [At, List.foldl_cons, List.foldl_nil, List.setIfInBounds_toArray, List.set_cons_zero, List.set_cons_succ]
        refine ⟨?_⟩
        go_simp
        go_wp2_with ((go_at_call 21; (with_reducible refine (HAGR.out _).mono ?_); rintro en w9 ⟨rfl, hbz⟩; have HC := Lib.hid hbz; clear hbz))
        exact HK.out (upd (upd (upd (upd (upd us 27 (.agg #[.int .i64 z1, .int .i64 z2])) 28 (.int .i64 er)) 29 (.int .i64 bad)) 32 (.agg #[.int .i64 a, .int .i64 b, .bool k])) 33 (.bool true)) w9 (by rw [upd_self h27, upd_self h28, upd_self h29, upd_self h32]; exact HJ.out.go (by kernel_rfl) HC.out 6 (by decide))
      · refine opAt rfl ?_
        intro l us wx hJ hp hl K hK
        have HJ := Lib.hid hJ; have HP := Lib.hid hp; have HBX := Lib.hid hJ.below; have HK := hK
        clear hJ hp hl hK
        simp only [At, List.foldl_cons, List.foldl_nil, List.setIfInBounds_toArray, List.set_cons_zero, List.set_cons_succ] at HK
        have HK := Lib.hid HK
        have h33 : us 33 = .bool true := HJ.out.val 6 (by decide) (HP.out 6 (by kernel_rfl))
        simp only [At, List.foldl_cons, List.foldl_nil, List.setIfInBounds_toArray, List.set_cons_zero, List.set_cons_succ]
        refine ⟨?_⟩
        go_simp
        exact HK.out (upd (upd us 33 (.bool true)) 34 (.bool false)) wx (by rw [upd_self h33]; exact HJ.out.go (by kernel_rfl) (Below.refl _ _) 7 (by decide))
    case rest =>
      obtain ⟨rfl, HBC⟩ := hcut
      obtain ⟨T, hT⟩ : ∃ T, wc = T := ⟨_, rfl⟩
      rw [hT] at HBC ⊢
      clear hT
      have c0 := keep_cell HBC.out c0; have c1 := keep_cell HBC.out c1; have y0 := keep_cell HBC.out y0; have y1 := keep_cell HBC.out y1
      have HB := Lib.hid (belowT HBZ.out HBC.out)
      go_wp2_with (first
        | (go_at_call 20; (with_reducible refine (HARG2.out _).mono ?_); rintro en w8 ⟨rfl, hbz⟩; have HB := Lib.hid (belowT HB.out hbz); clear hbz)
        | (go_at_call 25; (with_reducible refine (HSAN.out _ (HT.out.below HB.out)).mono ?_); rintro en w99 ⟨rfl, hbz⟩; have HB := Lib.hid (belowT HB.out hbz); clear hbz))
      go_ret
      exact ⟨rfl, belowT HBEL.out HB.out⟩
end Go.Proofs.YtekbfommnmikbaaGreatDoor
