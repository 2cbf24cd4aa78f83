/- Texts of this claim, merged: SpH, FromN, FloorR, WholesL. -/
import Derived.Test.YtekbfommnmikbaaGreatDoorP10
import Derived.Laws.IdiomStrings
/- The reference of layer 2: Whole, FromNumber, Floor. -/
namespace Go.Proofs.YtekbfommnmikbaaGreatDoor
set_option linter.unusedVariables false
set_option linter.unusedSimpArgs false
open Go.RowKit Go.Shelf Go.Proofs
attribute [local go_sem ↓] Go.wp_at_zero Go.wp_at_succ

theorem rdV_any (o : Option (Int × Int)) : ∃ a b k, rdV o = .agg #[.int .i64 a, .int .i64 b, .bool k] := by
  rcases o with _ | ⟨a, b⟩
  · exact ⟨0, 0, false, rfl⟩
  · exact ⟨a, b, true, rfl⟩
theorem few200 {z : Int} (h : z.natAbs < 10 ^ 200) : (dg 10 z.natAbs).length ≤ 200 := (dg_length_le (by decide) _ 200).2 h

set_option maxRecDepth 100000 in
set_option maxHeartbeats 8000000 in
theorem swhole_c (S : ByteArray) (z : Int) (w : World) (h : NumL S.data.toList z) :
    Calls Tryz.prog 137 #[.string S] w fun en w' => ∃ v, en = .returned v ∧ Dc w' v z 0 ∧ Below w.heap.size w w' := by
  obtain ⟨W, hW, k0⟩ : ∃ W, w.alloc (.cells #[.slice none 0 0, .bool false, .int .i64 0] 60) = W ∧ W.heap[w.heap.size]? = some (.cells #[.slice none 0 0, .bool false, .int .i64 0] 60 (0, 0)) := ⟨_, rfl, heap_alloc_new _ _⟩
  have hbel : Below w.heap.size w W := by rw [← hW]; exact (Below.refl _ _).alloc (Nat.le_refl _) _
  have HBEL := Lib.hid hbel; have HK := Lib.hid k0
  have HOF := Lib.hid (fun w' => rof_c S z w' h)
  clear k0 hbel h
  go_enter Tryz.func137, Tryz.ntmps137
  go_wp2_with (go_at_call 93; (with_reducible refine (HOF.out _).mono ?_); rintro en w2 ⟨v, rfl, hv, hbz⟩; obtain ⟨A9, n9, c9, b9, rfl⟩ := hv.form; have hhx := heapB hbz HK.out; obtain ⟨d0, d1, d2⟩ := three_cells hhx; have f0 := free_of_heap hhx 0; have f1 := free_of_heap hhx 1; have f2 := free_of_heap hhx 2; have HV := Lib.hid hv; have HX := Lib.hid hhx; have HB2 := Lib.hid (belowT HBEL.out hbz); clear hv hbz hhx)
  obtain ⟨F, hF, r0, r1, r2, hri, hfb⟩ := dc_put (e := 0) HV.out HX.out
  (try rw [hF])
  refine bodyPost_ret (v := .agg #[.slice A9 n9 c9, .bool b9, .int .i64 0]) (by simp [results, Tryz.results137, go_sem, r0, r1, r2]) rfl ?_
  exact ⟨_, rfl, ⟨A9, n9, c9, b9, rfl, hri⟩, hfb _ _ (Nat.le_refl _) HB2.out⟩

set_option maxRecDepth 100000 in
set_option maxHeartbeats 8000000 in
theorem sfromn_c (S : ByteArray) (z : Int) (w : World) (h : NumL S.data.toList z) :
    Calls Tryz.prog 67 #[.string S] w fun en w' => en = .returned (rdV (rndS z 0)) ∧ Below w.heap.size w w' := by
  obtain ⟨W, hW, k0⟩ : ∃ W, w.alloc (.cells #[.int .i64 0, .int .i64 0, .bool false] 30) = W ∧ W.heap[w.heap.size]? = some (.cells #[.int .i64 0, .int .i64 0, .bool false] 30 (0, 0)) := ⟨_, rfl, heap_alloc_new _ _⟩
  have hbel : Below w.heap.size w W := by rw [← hW]; exact (Below.refl _ _).alloc (Nat.le_refl _) _
  have BOX := box3 k0
  have FIN := fin3 k0 (Nat.le_refl _) hbel
  have HWH := Lib.hid (fun w' => swhole_c S z w' h)
  have hl := few200 h.2
  have HRN := Lib.hid (fun v w' hd => sround_c v z 0 w' hd (by omega) (by omega) (by omega))
  obtain ⟨a, b, k, hf⟩ := rdV_any (rndS z 0)
  rw [hf] at HRN ⊢
  clear k0 hbel h hl hf
  go_enter Tryz.func67, Tryz.ntmps67
  go_wp2_with (first
    | (go_at_call 137; (with_reducible refine (HWH.out _).mono ?_); rintro en w2 ⟨v, rfl, hd, hbz⟩; obtain ⟨A9, n9, c9, b9, rfl⟩ := hd.form; have HD := Lib.hid hd; have HB := Lib.hid hbz; clear hbz hd)
    | (go_at_call 50; refine (HRN.out _ _ HD.out).mono ?_; rintro en w3 ⟨rfl, hbz⟩; have HB3 := Lib.hid (belowT HB.out hbz); obtain ⟨d0, d1, d2, g0, g1, g2⟩ := BOX.out _ HB3.out; clear hbz))
  obtain ⟨r0, r1, r2, hbb⟩ := FIN.out _ (.int .i64 a) (.int .i64 b) (.bool k) HB3.out
  refine bodyPost_ret (v := .agg #[.int .i64 a, .int .i64 b, .bool k]) (by simp [results, Tryz.results67, go_sem, r0, r1, r2]) rfl ?_
  exact ⟨rfl, hbb⟩

set_option maxRecDepth 100000 in
set_option maxHeartbeats 8000000 in
theorem sfloor_c (m e : Int) (w : World) (h : RV m.natAbs e) :
    Calls Tryz.prog 68 #[.agg #[.int .i64 m, .int .i64 e]] w fun en w' => en = .returned (.string ⟨(Lib.itoa (floorV m e)).toArray⟩) ∧ Below w.heap.size w w' := by
  obtain ⟨W, hW, k0⟩ : ∃ W, w.alloc (.cells #[.int .i64 m, .int .i64 e] 23) = W ∧ W.heap[w.heap.size]? = some (.cells #[.int .i64 m, .int .i64 e] 23 (0, 0)) := ⟨_, rfl, heap_alloc_new _ _⟩
  have hbel : Below w.heap.size w W := by rw [← hW]; exact (Below.refl _ _).alloc (Nat.le_refl _) _
  have HBEL := Lib.hid hbel
  obtain ⟨c0, c1⟩ := two_cells k0
  obtain ⟨x0, x1, x2⟩ := RV_abs h
  have HOF := Lib.hid (fun w' => sof_c m e w' (by omega) (by omega))
  have hl : (dg 10 m.natAbs).length ≤ 12 := by
    have := dgR_len h; rw [List.length_reverse] at this; exact this
  clear k0 hbel h
  by_cases he : 0 ≤ e
  · obtain ⟨k, hk⟩ := Int.eq_ofNat_of_zero_le he
    have hfl : floorV m e = m * 10 ^ k := by unfold floorV; rw [if_pos he, hk, Int.toNat_natCast]
    rw [hfl]
    have HAT := Lib.hid (fun v w' hd => sat_c v m e 0 k w' hd (by omega) (by omega) (by omega) (by omega) (by omega))
    have HTX := Lib.hid (fun v w' hd => rtext_c v (m * 10 ^ k) w' hd (by have := dg_shift_le k hl; omega))
    clear hfl hl hk x0
    go_enter Tryz.func68, Tryz.ntmps68
    go_wp2_with (first
      | (go_at_call 45; (with_reducible refine (HOF.out _).mono ?_); rintro en w2 ⟨v, rfl, ⟨A9, n9, c9, b9, rfl, hr9⟩, hbz⟩; have HR9 := Lib.hid hr9; have HB := Lib.hid hbz; clear hbz hr9)
      | (go_at_call 118; refine (HAT.out _ _ ⟨A9, n9, c9, b9, rfl, HR9.out.below ((Below.refl _ _).alloc (Nat.le_refl _) _)⟩).mono ?_; rintro en w3 ⟨v, rfl, hv, hbz⟩; obtain ⟨A3, n3, c3, b3, rfl⟩ := hv.form; have HV3 := Lib.hid hv; have HB3 := Lib.hid (belowT (belowA HB.out _) hbz); clear hbz hv)
      | (go_at_call 138; refine (HTX.out _ _ HV3.out).mono ?_; rintro en w4 ⟨rfl, hbz⟩; have HB4 := Lib.hid (belowT HB3.out hbz); clear hbz))
    go_ret
    exact ⟨rfl, belowT HBEL.out HB4.out⟩
  · obtain ⟨k, hk⟩ := Int.eq_ofNat_of_zero_le (show 0 ≤ -e by omega)
    have hfl : floorV m e = m.fdiv (10 ^ k) := by unfold floorV; rw [if_neg he, hk, Int.toNat_natCast]
    rw [hfl]
    have hfd := fld_a
    have HPW : Hid ((dg 10 ((10 : Int) ^ k).natAbs).length ≤ 999999) := by
      show _ ≤ _
      have := (dg_length_le (b := 10) (by decide) ((10 : Int) ^ k).natAbs 200).2 (by rw [Int.natAbs_pow]; exact Nat.pow_lt_pow_right (by decide) (by omega))
      omega
    have HNZ : Hid ((10 : Int) ^ k ≠ 0) := by have : (0 : Int) < 10 ^ k := Int.pow_pos (by decide); show _ ≠ _; omega
    have HQL : Hid ((dg 10 (m.fdiv (10 ^ k)).natAbs).length ≤ 1000000) := by
      show _ ≤ _
      have hp : (0 : Int) < 10 ^ k := Int.pow_pos (by decide)
      have h1 := Int.mul_fdiv_add_fmod m (10 ^ k)
      have h3 := Int.fmod_nonneg_of_pos m hp
      have h4 := Int.fmod_lt_of_pos m hp
      have hb : (m.fdiv (10 ^ k)).natAbs < 10 ^ 13 := by
        rw [Int.fdiv_eq_ediv_of_nonneg _ (Int.le_of_lt hp)]
        have a := Int.natAbs_ediv_le_natAbs m (10 ^ k)
        have : (10 : Nat) ^ 13 = 10000000000000 := by decide
        omega
      have := (dg_length_le (b := 10) (by decide) _ 13).2 hb
      omega
    have HO1 := Lib.hid (fun w' => rof_c ⟨#[49]⟩ 1 w' ⟨by decide +kernel, by decide +kernel⟩)
    have HZR := Lib.hid (fun v w' hv => zeros_c v 1 (-e) k w' hv (by decide +kernel) hk (by omega))
    rw [Int.one_mul] at HZR
    have HDN := Lib.hid (fun v1 v2 w' h1 h2 => rdown_c v1 v2 m (10 ^ k) w' h1 h2 HNZ.out (by omega) HPW.out)
    have HTX := Lib.hid (fun v w' hd => rtext_c v (m.fdiv (10 ^ k)) w' hd HQL.out)
    clear hfl hk x0
    go_enter Tryz.func68, Tryz.ntmps68
    go_upto_region 4 with (go_at_call 45; (with_reducible refine (HOF.out _).mono ?_); rintro en w2 ⟨v, rfl, ⟨A9, n9, c9, b9, rfl, hr9⟩, hbz⟩; have HR9 := Lib.hid hr9; have HB := Lib.hid hbz; clear hbz hr9)
    obtain ⟨U, hU⟩ : ∃ U, w2.alloc (.cells #[.slice A9 n9 c9, .bool b9, .int .i64 e] 60) = U := ⟨_, rfl⟩
    have hUb : Below w2.heap.size w2 U := by rw [← hU]; exact (Below.refl _ _).alloc (Nat.le_refl _) _
    have hUh : U.heap[w2.heap.size]? = some (.cells #[.slice A9 n9 c9, .bool b9, .int .i64 e] 60 (0, 0)) := by rw [← hU]; exact heap_alloc_new _ _
    rw [hU]
    obtain ⟨e0, e1, e2⟩ := three_cells hUh
    have HR9 := Lib.hid (HR9.out.below hUb)
    have HBU := Lib.hid (belowT HB.out hUb)
    clear hUb hUh hU HB c0 c1
    go_cut [2] from 12 to 21 (fun v wx => v = .string ⟨(Lib.itoa (m.fdiv (10 ^ k))).toArray⟩ ∧ Hid (Below U.heap.size U wx))
    case first =>
      have HSTL : StableL [(fun _ v => v = .pointer (some ⟨w2.heap.size, 0, none⟩)), (fun w v => Ri w v (m)), (fun w v => Ri w v (1)), (fun _ v => v = .pointer (some ⟨w2.heap.size, 2, none⟩)), (fun _ v => v = .int .i64 e), (fun _ v => v = .int .i64 (-e)), (fun w v => Ri w v (10 ^ k)), (fun w v => Pr w v (m.fdiv (10 ^ k)) (m.fmod (10 ^ k))), (fun w v => Ri w v (m.fdiv (10 ^ k))), (fun _ v => v = .string ⟨(Lib.itoa (m.fdiv (10 ^ k))).toArray⟩), (fun _ v => v = .string ⟨(Lib.itoa (m.fdiv (10 ^ k))).toArray⟩)] := ⟨(fun _ _ _ _ h => h), (fun _ _ _ hb h => Ri.below h hb), (fun _ _ _ hb h => Ri.below h hb), (fun _ _ _ _ h => h), (fun _ _ _ _ h => h), (fun _ _ _ _ h => h), (fun _ _ _ hb h => Ri.below h hb), (fun _ _ _ hb h => Pr.below h hb), (fun _ _ _ hb h => Ri.below h hb), (fun _ _ _ _ h => h), (fun _ _ _ _ h => h), trivial⟩
      refine wp_region_p [12, 13, 14, 15, 16, 17, 18, 19, 20, 21, 2] [12, 13, 14, 15, 16, 17, 18, 19, 20, 21, 2] [(fun _ v => v = .pointer (some ⟨w2.heap.size, 0, none⟩)), (fun w v => Ri w v (m)), (fun w v => Ri w v (1)), (fun _ v => v = .pointer (some ⟨w2.heap.size, 2, none⟩)), (fun _ v => v = .int .i64 e), (fun _ v => v = .int .i64 (-e)), (fun w v => Ri w v (10 ^ k)), (fun w v => Pr w v (m.fdiv (10 ^ k)) (m.fmod (10 ^ k))), (fun w v => Ri w v (m.fdiv (10 ^ k))), (fun _ v => v = .string ⟨(Lib.itoa (m.fdiv (10 ^ k))).toArray⟩), (fun _ v => v = .string ⟨(Lib.itoa (m.fdiv (10 ^ k))).toArray⟩)] 11 (fun _ _ => True) 11 rfl (by kernel_rfl) (by kernel_rfl) ?_ ⟨?_, ?_, ?_, ?_, ?_, ?_, ?_, ?_, ?_, ?_, ?_, trivial⟩
      · intro l us wx hl hJ
        have HNF := hJ.nofin (by kernel_rfl)
        have HB := Lib.hid (hJ.below HNF)
        have h2 : us 2 = .string ⟨(Lib.itoa (m.fdiv (10 ^ k))).toArray⟩ := hJ.val HNF 10 (by decide) (hl 10 (by decide))
        clear hl hJ
        simp only [At, List.foldl_cons, List.foldl_nil, List.setIfInBounds_toArray, List.set_cons_zero, List.set_cons_succ]
        go_wp2_with fail
        go_meet
        exact ⟨by first | rfl | assumption, HB⟩
      · refine opAt rfl ?_
        intro l us wx hJ hp hl K hK
        have HJ := Lib.hid hJ; have HP := Lib.hid hp; have HLI := Lib.hid hl; have HF := Lib.hid (hJ.live hl (by decide)); have HBX := Lib.hid (hJ.below HF.out); have HK := hK
        clear hJ hp hl hK
        simp only [At, List.foldl_cons, List.foldl_nil, List.setIfInBounds_toArray, List.set_cons_zero, List.set_cons_succ] at HK
        have HK := Lib.hid HK
        simp only [At, List.foldl_cons, List.foldl_nil, List.setIfInBounds_toArray, List.set_cons_zero, List.set_cons_succ]
        refine ⟨?_⟩
        go_simp
        exact HK.out (upd us 12 (.pointer (some ⟨w2.heap.size, 0, none⟩))) wx (by exact HJ.out.go HSTL (by kernel_rfl) 0 HF.out (by decide) (by decide) HP.out (Below.refl _ _) (.pointer (some ⟨w2.heap.size, 0, none⟩)) (rfl))
      · refine opAt rfl ?_
        intro l us wx hJ hp hl K hK
        have HJ := Lib.hid hJ; have HP := Lib.hid hp; have HLI := Lib.hid hl; have HF := Lib.hid (hJ.live hl (by decide)); have HBX := Lib.hid (hJ.below HF.out); have HK := hK
        clear hJ hp hl hK
        simp only [At, List.foldl_cons, List.foldl_nil, List.setIfInBounds_toArray, List.set_cons_zero, List.set_cons_succ] at HK
        have HK := Lib.hid HK
        have h12 : us 12 = .pointer (some ⟨w2.heap.size, 0, none⟩) := HJ.out.val HF.out 0 (by decide) (HP.out 0 (by kernel_rfl))
        have e0 := keep_cell HBX.out e0
        have e1 := keep_cell HBX.out e1
        simp only [At, List.foldl_cons, List.foldl_nil, List.setIfInBounds_toArray, List.set_cons_zero, List.set_cons_succ]
        refine ⟨?_⟩
        go_simp
        exact HK.out (upd (upd us 12 (.pointer (some ⟨w2.heap.size, 0, none⟩))) 13 (.agg #[.slice A9 n9 c9, .bool b9])) wx (by rw [upd_self h12]; exact HJ.out.go HSTL (by kernel_rfl) 1 HF.out (by decide) (by decide) HP.out (Below.refl _ _) (.agg #[.slice A9 n9 c9, .bool b9]) (HR9.out.below HBX.out))
      · refine opAt rfl ?_
        intro l us wx hJ hp hl K hK
        have HJ := Lib.hid hJ; have HP := Lib.hid hp; have HLI := Lib.hid hl; have HF := Lib.hid (hJ.live hl (by decide)); have HBX := Lib.hid (hJ.below HF.out); have HK := hK
        clear hJ hp hl hK
        simp only [At, List.foldl_cons, List.foldl_nil, List.setIfInBounds_toArray, List.set_cons_zero, List.set_cons_succ] at HK
        have HK := Lib.hid HK
        simp only [At, List.foldl_cons, List.foldl_nil, List.setIfInBounds_toArray, List.set_cons_zero, List.set_cons_succ]
        refine ⟨?_⟩
        go_simp
        go_wp2_with ((go_at_call 93; (with_reducible refine (HO1.out _).mono ?_); rintro en w9 ⟨v9, rfl, hv9, hbz⟩; have HV := Lib.hid hv9; clear hv9; have HC := Lib.hid hbz; clear hbz))
        exact HK.out (upd us 14 (v9)) w9 (by exact HJ.out.go HSTL (by kernel_rfl) 2 HF.out (by decide) (by decide) HP.out HC.out (v9) (HV.out))
      · refine opAt rfl ?_
        intro l us wx hJ hp hl K hK
        have HJ := Lib.hid hJ; have HP := Lib.hid hp; have HLI := Lib.hid hl; have HF := Lib.hid (hJ.live hl (by decide)); have HBX := Lib.hid (hJ.below HF.out); have HK := hK
        clear hJ hp hl hK
        simp only [At, List.foldl_cons, List.foldl_nil, List.setIfInBounds_toArray, List.set_cons_zero, List.set_cons_succ] at HK
        have HK := Lib.hid HK
        simp only [At, List.foldl_cons, List.foldl_nil, List.setIfInBounds_toArray, List.set_cons_zero, List.set_cons_succ]
        refine ⟨?_⟩
        go_simp
        exact HK.out (upd us 15 (.pointer (some ⟨w2.heap.size, 2, none⟩))) wx (by exact HJ.out.go HSTL (by kernel_rfl) 3 HF.out (by decide) (by decide) HP.out (Below.refl _ _) (.pointer (some ⟨w2.heap.size, 2, none⟩)) (rfl))
      · refine opAt rfl ?_
        intro l us wx hJ hp hl K hK
        have HJ := Lib.hid hJ; have HP := Lib.hid hp; have HLI := Lib.hid hl; have HF := Lib.hid (hJ.live hl (by decide)); have HBX := Lib.hid (hJ.below HF.out); have HK := hK
        clear hJ hp hl hK
        simp only [At, List.foldl_cons, List.foldl_nil, List.setIfInBounds_toArray, List.set_cons_zero, List.set_cons_succ] at HK
        have HK := Lib.hid HK
        have h15 : us 15 = .pointer (some ⟨w2.heap.size, 2, none⟩) := HJ.out.val HF.out 3 (by decide) (HP.out 3 (by kernel_rfl))
        have e2 := keep_cell HBX.out e2
        simp only [At, List.foldl_cons, List.foldl_nil, List.setIfInBounds_toArray, List.set_cons_zero, List.set_cons_succ]
        refine ⟨?_⟩
        go_simp
        exact HK.out (upd (upd us 15 (.pointer (some ⟨w2.heap.size, 2, none⟩))) 16 (.int .i64 e)) wx (by rw [upd_self h15]; exact HJ.out.go HSTL (by kernel_rfl) 4 HF.out (by decide) (by decide) HP.out (Below.refl _ _) (.int .i64 e) (rfl))
      · refine opAt rfl ?_
        intro l us wx hJ hp hl K hK
        have HJ := Lib.hid hJ; have HP := Lib.hid hp; have HLI := Lib.hid hl; have HF := Lib.hid (hJ.live hl (by decide)); have HBX := Lib.hid (hJ.below HF.out); have HK := hK
        clear hJ hp hl hK
        simp only [At, List.foldl_cons, List.foldl_nil, List.setIfInBounds_toArray, List.set_cons_zero, List.set_cons_succ] at HK
        have HK := Lib.hid HK
        have h16 : us 16 = .int .i64 e := HJ.out.val HF.out 4 (by decide) (HP.out 4 (by kernel_rfl))
        have hw1 : IntKind.i64.wrap (-e) = -e := IntWalk.i64_in _ (by omega)
        simp only [At, List.foldl_cons, List.foldl_nil, List.setIfInBounds_toArray, List.set_cons_zero, List.set_cons_succ]
        refine ⟨?_⟩
        go_simp
        exact HK.out (upd (upd us 16 (.int .i64 e)) 17 (.int .i64 (-e))) wx (by rw [upd_self h16]; exact HJ.out.go HSTL (by kernel_rfl) 5 HF.out (by decide) (by decide) HP.out (Below.refl _ _) (.int .i64 (-e)) (rfl))
      · refine opAt rfl ?_
        intro l us wx hJ hp hl K hK
        have HJ := Lib.hid hJ; have HP := Lib.hid hp; have HLI := Lib.hid hl; have HF := Lib.hid (hJ.live hl (by decide)); have HBX := Lib.hid (hJ.below HF.out); have HK := hK
        clear hJ hp hl hK
        simp only [At, List.foldl_cons, List.foldl_nil, List.setIfInBounds_toArray, List.set_cons_zero, List.set_cons_succ] at HK
        have HK := Lib.hid HK
        have h14 : Ri wx (us 14) (1) := HJ.out.val HF.out 2 (by decide) (HP.out 2 (by kernel_rfl))
        obtain ⟨A14, n14, q14, b14, e14⟩ := h14.form
        have h17 : us 17 = .int .i64 (-e) := HJ.out.val HF.out 5 (by decide) (HP.out 5 (by kernel_rfl))
        simp only [At, List.foldl_cons, List.foldl_nil, List.setIfInBounds_toArray, List.set_cons_zero, List.set_cons_succ]
        refine ⟨?_⟩
        go_simp
        go_wp2_with ((go_at_call 126; (with_reducible refine (HZR.out _ _ (by rw [e14] at h14; exact h14)).mono ?_); rintro en w9 ⟨v9, rfl, hv9, hbz⟩; have HV := Lib.hid hv9; clear hv9; have HC := Lib.hid hbz; clear hbz))
        exact HK.out (upd (upd (upd us 14 (.agg #[.slice A14 n14 q14, .bool b14])) 17 (.int .i64 (-e))) 18 (v9)) w9 (by rw [upd_self e14, upd_self h17]; exact HJ.out.go HSTL (by kernel_rfl) 6 HF.out (by decide) (by decide) HP.out HC.out (v9) (HV.out))
      · refine opAt rfl ?_
        intro l us wx hJ hp hl K hK
        have HJ := Lib.hid hJ; have HP := Lib.hid hp; have HLI := Lib.hid hl; have HF := Lib.hid (hJ.live hl (by decide)); have HBX := Lib.hid (hJ.below HF.out); have HK := hK
        clear hJ hp hl hK
        simp only [At, List.foldl_cons, List.foldl_nil, List.setIfInBounds_toArray, List.set_cons_zero, List.set_cons_succ] at HK
        have HK := Lib.hid HK
        have h13 : Ri wx (us 13) (m) := HJ.out.val HF.out 1 (by decide) (HP.out 1 (by kernel_rfl))
        obtain ⟨A13, n13, q13, b13, e13⟩ := h13.form
        have h18 : Ri wx (us 18) (10 ^ k) := HJ.out.val HF.out 6 (by decide) (HP.out 6 (by kernel_rfl))
        obtain ⟨A18, n18, q18, b18, e18⟩ := h18.form
        simp only [At, List.foldl_cons, List.foldl_nil, List.setIfInBounds_toArray, List.set_cons_zero, List.set_cons_succ]
        refine ⟨?_⟩
        go_simp
        go_wp2_with ((go_at_call 139; (with_reducible refine (HDN.out _ _ _ (by rw [e13] at h13; exact h13) (by rw [e18] at h18; exact h18)).mono ?_); rintro en w9 ⟨v9, rfl, hv9, hbz⟩; have HV := Lib.hid hv9; clear hv9; have HC := Lib.hid hbz; clear hbz))
        exact HK.out (upd (upd (upd us 13 (.agg #[.slice A13 n13 q13, .bool b13])) 18 (.agg #[.slice A18 n18 q18, .bool b18])) 19 (v9)) w9 (by rw [upd_self e13, upd_self e18]; exact HJ.out.go HSTL (by kernel_rfl) 7 HF.out (by decide) (by decide) HP.out HC.out (v9) (HV.out))
      · refine opAt rfl ?_
        intro l us wx hJ hp hl K hK
        have HJ := Lib.hid hJ; have HP := Lib.hid hp; have HLI := Lib.hid hl; have HF := Lib.hid (hJ.live hl (by decide)); have HBX := Lib.hid (hJ.below HF.out); have HK := hK
        clear hJ hp hl hK
        simp only [At, List.foldl_cons, List.foldl_nil, List.setIfInBounds_toArray, List.set_cons_zero, List.set_cons_succ] at HK
        have HK := Lib.hid HK
        have h19 : Pr wx (us 19) (m.fdiv (10 ^ k)) (m.fmod (10 ^ k)) := HJ.out.val HF.out 7 (by decide) (HP.out 7 (by kernel_rfl))
        obtain ⟨A19, n19, q19, b19, A29, n29, q29, b29, e19⟩ := h19.form
        rw [e19] at h19
        obtain ⟨hp1, hp2⟩ := h19.parts
        have HP1 := Lib.hid hp1; clear hp1 hp2 h19
        simp only [At, List.foldl_cons, List.foldl_nil, List.setIfInBounds_toArray, List.set_cons_zero, List.set_cons_succ]
        refine ⟨?_⟩
        go_simp
        exact HK.out (upd (upd us 19 (.agg #[.slice A19 n19 q19, .bool b19, .slice A29 n29 q29, .bool b29])) 20 (.agg #[.slice A19 n19 q19, .bool b19])) wx (by rw [upd_self e19]; exact HJ.out.go HSTL (by kernel_rfl) 8 HF.out (by decide) (by decide) HP.out (Below.refl _ _) (.agg #[.slice A19 n19 q19, .bool b19]) (HP1.out))
      · refine opAt rfl ?_
        intro l us wx hJ hp hl K hK
        have HJ := Lib.hid hJ; have HP := Lib.hid hp; have HLI := Lib.hid hl; have HF := Lib.hid (hJ.live hl (by decide)); have HBX := Lib.hid (hJ.below HF.out); have HK := hK
        clear hJ hp hl hK
        simp only [At, List.foldl_cons, List.foldl_nil, List.setIfInBounds_toArray, List.set_cons_zero, List.set_cons_succ] at HK
        have HK := Lib.hid HK
        have h20 : Ri wx (us 20) (m.fdiv (10 ^ k)) := HJ.out.val HF.out 8 (by decide) (HP.out 8 (by kernel_rfl))
        obtain ⟨A20, n20, q20, b20, e20⟩ := h20.form
        simp only [At, List.foldl_cons, List.foldl_nil, List.setIfInBounds_toArray, List.set_cons_zero, List.set_cons_succ]
        refine ⟨?_⟩
        go_simp
        go_wp2_with ((go_at_call 138; (with_reducible refine (HTX.out _ _ (by rw [e20] at h20; exact h20)).mono ?_); rintro en w9 ⟨rfl, hbz⟩; have HC := Lib.hid hbz; clear hbz))
        exact HK.out (upd (upd us 20 (.agg #[.slice A20 n20 q20, .bool b20])) 21 (.string ⟨(Lib.itoa (m.fdiv (10 ^ k))).toArray⟩)) w9 (by rw [upd_self e20]; exact HJ.out.go HSTL (by kernel_rfl) 9 HF.out (by decide) (by decide) HP.out HC.out (.string ⟨(Lib.itoa (m.fdiv (10 ^ k))).toArray⟩) (rfl))
      · refine opAt rfl ?_
        intro l us wx hJ hp hl K hK
        have HJ := Lib.hid hJ; have HP := Lib.hid hp; have HLI := Lib.hid hl; have HF := Lib.hid (hJ.live hl (by decide)); have HBX := Lib.hid (hJ.below HF.out); have HK := hK
        clear hJ hp hl hK
        simp only [At, List.foldl_cons, List.foldl_nil, List.setIfInBounds_toArray, List.set_cons_zero, List.set_cons_succ] at HK
        have HK := Lib.hid HK
        have h21 : us 21 = .string ⟨(Lib.itoa (m.fdiv (10 ^ k))).toArray⟩ := HJ.out.val HF.out 9 (by decide) (HP.out 9 (by kernel_rfl))
        simp only [At, List.foldl_cons, List.foldl_nil, List.setIfInBounds_toArray, List.set_cons_zero, List.set_cons_succ]
        refine ⟨?_⟩
        go_simp
        exact HK.out (upd (upd us 21 (.string ⟨(Lib.itoa (m.fdiv (10 ^ k))).toArray⟩)) 2 (.string ⟨(Lib.itoa (m.fdiv (10 ^ k))).toArray⟩)) wx (by rw [upd_self h21]; exact HJ.out.go HSTL (by kernel_rfl) 10 HF.out (by decide) (by decide) HP.out (Below.refl _ _) (.string ⟨(Lib.itoa (m.fdiv (10 ^ k))).toArray⟩) (rfl))
    case rest =>
      obtain ⟨rfl, HB⟩ := hcut
      go_wp2_with fail
      go_ret
      exact ⟨rfl, belowT HBEL.out (belowT HBU.out HB.out)⟩
end Go.Proofs.YtekbfommnmikbaaGreatDoor
/- Package real: FromNumber, Floor. -/
namespace Go.Proofs.YtekbfommnmikbaaGreatDoor
set_option linter.unusedVariables false
set_option linter.unusedSimpArgs false
open Go.RowKit Go.Shelf Go.Proofs
attribute [local go_sem ↓] Go.wp_at_zero Go.wp_at_succ

/-- What FromNumber returns for an integer. -/
theorem vd_text {D : ByteArray} {n : Nat} (h : DecT D n) : vd (D.data.toList.map dval) = (n : Int) ∧ InR 10 (D.data.toList.map dval) := by
  have hd : ∀ b ∈ D.data.toList, isDig b := by rw [h.l_]; exact decDigits_dig n
  have h1 := val_rev hd
  rw [← vd_rev, List.reverse_reverse] at h1
  refine ⟨by rw [h1, h.l_, decVal_decDigits], ?_⟩
  have h2 := inR_rev hd
  exact fun x hx => h2 x (List.mem_reverse.2 hx)
theorem bytes_row {w : World} {g : Nat} {D : ByteArray} {cap : Nat} {t : TypeId} {fz : Nat × Nat} (h : w.heap[g]? = some (.cells (bytesRow D cap) t fz)) (j : Nat) (hj : j < D.size) : w.cell? ⟨g, j, none⟩ = some (.int .u8 (D[j].toNat : Int)) := by
  rw [cell_of_heap h]
  unfold bytesRow
  rw [Array.getElem?_append_left (by simpa using hj), Array.getElem?_map, Array.getElem?_eq_getElem hj]
  rfl

/-- The head of the amount that FromNumber makes. -/
def NumRes (S : ByteArray) (e : Ending) : Prop := (∃ z, NumL S.data.toList z ∧ e = .returned (resS (rndS z 0))) ∨ ((¬ ∃ z, NumL S.data.toList z) ∧ e = .returned (.tuple #[.agg #[.int .i64 0, .int .i64 0], .int .i64 1]))

set_option maxRecDepth 100000 in
set_option maxHeartbeats 8000000 in
theorem fromN_ok (S D : ByteArray) (s : Bool) (n : Nat) (R : Value) (w : World) (hv : ∃ z, NumL S.data.toList z) (hpre : Lib.hasPrefix S.data.toList [45] = s) (hD : (⟨(Lib.trimPrefix S.data.toList [45]).toArray⟩ : ByteArray) = D) (hd : DecT D n) (hR : resR s (rnd n 0) = R) :
    Calls Tryz.prog 63 #[.string S] w fun en w' => en = .returned R ∧ Below w.heap.size w w' := by
  obtain ⟨a', b', c', hf⟩ := res_form s (rnd n 0)
  rw [hf] at hR
  subst hR
  have HD := Lib.hid hD; have HPRE := Lib.hid hpre; have HV := Lib.hid hv; have HDT := Lib.hid hd
  have HR := Lib.hid hf
  have hs2 : D.size ≤ 200 := hd.le
  obtain ⟨I0, hi, hz0, hz1, hz3⟩ := info_parts info_byte
  have HI := Lib.hid (And.intro hi (And.intro hz0 (And.intro hz1 hz3)))
  have hconv := fun W : World => run_bytes_of_string (P := Tryz.prog) W 9 93 5 D Tryz.underlying9 Tryz.underlying93 Tryz.underlying5
  obtain ⟨cp, hcp⟩ : ∃ cp : World → Nat, (fun W : World => grownCap W D.size 0 5) = cp := ⟨_, rfl⟩
  have hcp' : ∀ W : World, grownCap W D.size 0 5 = cp W := fun W => congrFun hcp W
  simp only [hcp'] at hconv
  clear hcp hcp' hi hz0 hz1 hz3 hv hpre hD hd hf
  go_enter Tryz.func63, Tryz.ntmps63
  go_wp2_with (first
    | (go_at_call 62; (with_reducible refine (valid_c S _).mono ?_); rintro e W2 ⟨⟨b, rfl, hb⟩, hbz⟩; have hbt : b = true := hb.2 HV.out; subst hbt; have HB2 := Lib.hid hbz; have HX2 := Lib.hid (heapB hbz (heap_alloc_new _ _)); clear hb hbz)
    | (go_at_call 136; (with_reducible refine (Tryz.strings_CutPrefix S _ _).mono ?_); rintro e W3 ⟨rfl, rfl⟩; rw [show (ByteArray.mk #[45]).data.toList = [45] from rfl, HD.out, HPRE.out]))
  obtain ⟨B, hB⟩ : ∃ B, W3.heap.size = B := ⟨_, rfl⟩
  have HBW : Hid (Below w.heap.size w W3) := below_then' ((Below.refl _ _).alloc (Nat.le_refl _) _) HB2.out
  have hwB : w.heap.size < B := by have := HB2.out.size; simp at this; omega
  have HBE := Lib.hid hB
  obtain ⟨cc, hcc⟩ : ∃ cc, cp (W3.alloc (.cells #[.bool s, .slice none 0 0, .int .i64 0, .bool false] 95)) = cc := ⟨_, rfl⟩
  rw [hcc, hB]
  clear hcc hconv hB
  go_loopg [24] D.size (fun g i wr => ∃ (k : Nat) (v : Value), i = .int .i64 (k : Int) ∧ k + g = D.size ∧ Hid (wr.heap[w.heap.size]? = some (.cells #[.int .i64 0, .int .i64 0] 23 (0, 0))) ∧ Hid (wr.heap[B]? = some (.cells #[.bool s, v, .int .i64 0, .bool false] 95 (0, 0))) ∧ Hid (∃ fz, wr.heap[B + 1]? = some (.cells (bytesRow D cc) 5 fz)) ∧ B + 1 < wr.heap.size ∧ Hid (wr.ownsRow (B + 2) 5 1 v k (((D.data.toList.take k).map dval).map (Value.int .u8))) ∧ Hid (Below w.heap.size w wr))
  case atStart =>
    refine ⟨0, .slice none 0 0, rfl, by omega, heap_old _ (heap_old _ HX2.out), heap_old _ (heap_new' _ _ _ HBE.out.symm), ⟨_, heap_new' _ _ _ (by simp; exact HBE.out.symm)⟩, by simp; have := HBE.out; omega, World.ownsRow_nil _ _ _ _, ?_⟩
    exact ((HBW.out.alloc HBW.out.size _).alloc (by simp; have := HBW.out.size; omega) _).drew
  case round =>
    obtain ⟨k, v, rfl, hkg, HX, HA, HY, hszB, HOW, HB⟩ := hrel
    have hxB := cell_of_heap HX.out 0; have hxB1 := cell_of_heap HX.out 1
    have a0 := cell_of_heap HA.out 0; have a1 := cell_of_heap HA.out 1; have a2 := cell_of_heap HA.out 2; have a3 := cell_of_heap HA.out 3
    have af := free_of_heap HA.out 1
    simp at hxB hxB1 a0 a1 a2 a3
    by_cases hg : gk = 0
    · obtain rfl : k = D.size := by omega
      obtain ⟨hvd, hin⟩ := vd_text HDT.out
      obtain ⟨A9, c9, e9, hlc, hcm, hrow, hln⟩ := own_row HOW.out
      rw [List.take_of_length_le (by simp)] at e9 hlc hrow hln
      obtain ⟨xs, hxs⟩ : ∃ xs, D.data.toList.map dval = xs := ⟨_, rfl⟩
      rw [hxs] at hvd hin e9 hlc hrow hln
      subst e9
      have hcm' : c9 ≤ 9223372036854775807 := by unfold maxLen at hcm; omega
      have HRD := Lib.hid (rounded_c s A9 c9 xs 0 false wr hrow hlc hcm' hin (by omega) (by decide) (by decide))
      rw [show withMore xs false = xs from rfl, show expMore 0 false = 0 from rfl, hvd, Int.toNat_natCast, HR.out] at HRD
      have hf0 := free_of_heap HX.out 0; have hf1 := free_of_heap HX.out 1
      clear hvd hin hlc hrow hxs hg hkg
      rw [hln] at HRD a1
      have HLN := Lib.hid hln
      clear hln
      go_wp2_with (go_at_call 88; (with_reducible refine (HRD.out).mono ?_); rintro en w5 ⟨rfl, hbz⟩; have hhx := heapB hbz HX.out; have x0 := cell_of_heap hhx 0; have x1 := cell_of_heap hhx 1; have y0 := free_of_heap hhx 0; have y1 := free_of_heap hhx 1; simp at x0 x1; have HX5 := Lib.hid hhx; have HB5 := Lib.hid (belowT HB.out hbz); clear hbz hhx)
      have h9 := putB (putB HX5.out 0 (.int .i64 a')) 1 (.int .i64 b')
      have r0 := cell_of_heap h9 0; have r1 := cell_of_heap h9 1
      simp at r0 r1
      refine bodyPost_ret (v := .tuple #[.agg #[.int .i64 a', .int .i64 b'], .int .i64 c']) (by simp [results, Tryz.results63, go_sem, r0, r1]) rfl ?_
      exact ⟨rfl, (HB5.out.setCell (p := ⟨w.heap.size, 0, none⟩) (Nat.le_refl _) _).setCell (p := ⟨w.heap.size, 1, none⟩) (Nat.le_refl _) _⟩
    · obtain ⟨g, rfl⟩ : ∃ g, gk = g + 1 := ⟨gk - 1, by omega⟩
      have hk : k < D.size := by omega
      obtain ⟨fz, hY⟩ := HY.out
      have hb := bytes_row hY k hk
      have hd0 : 48 ≤ D[k].toNat := (HDT.out.dg k hk).1
      have hd1 : D[k].toNat ≤ 57 := (HDT.out.dg k hk).2
      have hwr1 : IntKind.u8.wrap ((D[k].toNat : Int) - 48) = (D[k].toNat : Int) - 48 := by rw [show IntKind.u8.wrap ((D[k].toNat : Int) - 48) = ((D[k].toNat : Int) - 48) % 256 from rfl]; omega
      have HST : Hid ((D.data.toList.take (k + 1)).map dval = (D.data.toList.take k).map dval ++ [(D[k].toNat : Int) - 48]) := by
        show _ = _
        rw [List.take_succ_eq_append_getElem (by simpa using hk), List.map_append]; rfl
      have HNE := Lib.hid (own_ne HOW.out (B := B) (by omega))
      have HNE0 := Lib.hid (own_ne HOW.out (B := w.heap.size) (by omega))
      have HNE1 := Lib.hid (own_ne HOW.out (B := B + 1) (by omega))
      have HFZ := Lib.hid hY
      clear hY hg
      go_wp2_with (at_builtin; refine wpList_append_lies _ rfl _ _ 93 rfl (B + 2) 5 I0 (.int .u8 0) 1 1 Tryz.underlying93 HI.out.1 HI.out.2.1 HI.out.2.2.1 HI.out.2.2.2 rfl (by decide) _ _ _ rfl (HOW.out.alloc _) ⟨wr.heap.size, 0, none⟩ 1 1 [.int .u8 ((D[k].toNat : Int) - 48)] rfl rfl (cell_one_new _ _ _) (by simp [Value.oneCell']) (by omega) (by unfold maxLen; omega) (by omega) (by simp; omega) _ rfl ?_; intro gg cap w1 hown1 hgrow1 hat hlt1; have HXA := Lib.hid (grown_put hgrow1 (heap_old _ HA.out) HNE.out); have HXX := Lib.hid (grown_put hgrow1 (heap_old _ HX.out) HNE0.out); have HXY := Lib.hid (grown_put hgrow1 (heap_old _ HFZ.out) HNE1.out); have b1 := cell_of_heap HXA.out 1; have f1 := free_of_heap HXA.out 1; simp at b1; have HO1 := Lib.hid hown1; have HG1 := Lib.hid hgrow1; clear hown1 hgrow1)
      go_roundg g
      case measure => omega
      case rel =>
        refine ⟨k + 1, .slice (some ⟨gg, 0, none⟩) (k + 1) cap, by go_num, by omega, ?_, box_put HXA.out 1 _, ⟨fz, ?_⟩, ?_, ?_, ?_⟩
        · exact (Below.heap_setCell _ _ _ _ (by simp; omega)).trans HXX.out
        · exact (Below.heap_setCell _ _ _ _ (by simp)).trans HXY.out
        · have := HG1.out.size; simp at this ⊢; omega
        · have h1 := own_setCell_other HO1.out ⟨B, 1, none⟩ (.slice (some ⟨gg, 0, none⟩) (k + 1) cap) (own_ne HO1.out (by simp))
          rw [HST.out, List.map_append]; exact h1
        · exact (((HB.out.alloc HB.out.size _).grown HG1.out (by simp; have := HB.out.size; omega) ((own_from HOW.out).mono (by omega))).setCell (p := ⟨B, 1, none⟩) (by simp; omega) _)

set_option maxRecDepth 100000 in
set_option maxHeartbeats 4000000 in
theorem fromN_c (S : ByteArray) (w : World) : Calls Tryz.prog 63 #[.string S] w fun en w' => NumRes S en ∧ Below w.heap.size w w' := by
  by_cases hv : ∃ z, NumL S.data.toList z
  · obtain ⟨z, hz⟩ := hv
    have key : ∀ (D : ByteArray) (s : Bool), Lib.hasPrefix S.data.toList [45] = s → (⟨(Lib.trimPrefix S.data.toList [45]).toArray⟩ : ByteArray) = D → D.data.toList = Lib.decDigits z.natAbs → s = decide (z < 0) → Calls Tryz.prog 63 #[.string S] w fun en w' => NumRes S en ∧ Below w.heap.size w w' := by
      intro D s h1 h2 h3 h4
      refine (fromN_ok S D s z.natAbs _ w ⟨z, hz⟩ h1 h2 (decT h3 hz.2) rfl).mono ?_
      rintro en w' ⟨rfl, hb⟩
      refine ⟨.inl ⟨z, hz, ?_⟩, hb⟩
      rw [h4, resR_rndS]
    have hpre : ∀ l : List UInt8, Lib.hasPrefix (45 :: l) [45] = true := fun l => by simp [Lib.hasPrefix]
    have htrim : ∀ l : List UInt8, Lib.trimPrefix (45 :: l) [45] = l := fun l => by simp [Lib.trimPrefix, hpre]
    have hpre2 : ∀ l : List UInt8, l.head? ≠ some 45 → Lib.hasPrefix l [45] = false := fun l h => by
      cases l with
      | nil => simp [Lib.hasPrefix]
      | cons a t =>
        have ha : ((45 : UInt8) == a) = false := by rw [beq_eq_false_iff_ne]; exact fun e => h (by rw [← e]; rfl)
        simp [Lib.hasPrefix, List.isPrefixOf, ha]
    by_cases h0 : z < 0
    · have e : S.data.toList = 45 :: Lib.decDigits z.natAbs := by rw [hz.1, Lib.itoa, if_pos h0]
      refine key ⟨(Lib.decDigits z.natAbs).toArray⟩ true ?_ ?_ ?_ ?_
      · rw [e]; exact hpre _
      · rw [e, htrim]
      · simp
      · exact (decide_eq_true h0).symm
    · obtain ⟨_, e⟩ := text_pos hz h0
      have hh : (Lib.decDigits z.natAbs).head? ≠ some 45 := by
        intro h
        cases hl : Lib.decDigits z.natAbs with
        | nil => rw [hl] at h; cases h
        | cons a t =>
          rw [hl] at h
          cases h
          have := (decDigits_dig z.natAbs 45 (by rw [hl]; simp)).1
          simp at this
      refine key ⟨(Lib.decDigits z.natAbs).toArray⟩ false ?_ ?_ ?_ ?_
      · rw [e]; exact hpre2 _ hh
      · rw [e]; simp [Lib.trimPrefix, hpre2 _ hh]
      · simp
      · exact (decide_eq_false h0).symm
  · have HV := Lib.hid hv
    obtain ⟨W, hW, k0⟩ : ∃ W, w.alloc (.cells #[.int .i64 0, .int .i64 0] 23) = W ∧ W.heap[w.heap.size]? = some (.cells #[.int .i64 0, .int .i64 0] 23 (0, 0)) := ⟨_, rfl, heap_alloc_new _ _⟩
    have hbel : Below w.heap.size w W := by rw [← hW]; exact (Below.refl _ _).alloc (Nat.le_refl _) _
    have FIN := fin2 k0 (Nat.le_refl _) hbel
    have BOX := box2 k0
    clear k0 hbel hv
    go_enter Tryz.func63, Tryz.ntmps63
    go_wp2_with (go_at_call 62; (with_reducible refine (valid_c S _).mono ?_); rintro e W2 ⟨⟨b, rfl, hb⟩, hbz⟩; have hbt : b = false := (by cases b; rfl; exact absurd (hb.1 rfl) HV.out); subst hbt; have HB2 := Lib.hid hbz; obtain ⟨x0, x1, y0, y1⟩ := BOX.out _ hbz; clear hb hbz)
    obtain ⟨r0, r1, hbb⟩ := FIN.out _ 0 0 HB2.out
    refine bodyPost_ret (v := .tuple #[.agg #[.int .i64 0, .int .i64 0], .int .i64 1]) (by simp [results, Tryz.results63, go_sem, r0, r1]) rfl ?_
    exact ⟨.inr ⟨HV.out, rfl⟩, hbb⟩
end Go.Proofs.YtekbfommnmikbaaGreatDoor
/- Package real: Floor. -/
namespace Go.Proofs.YtekbfommnmikbaaGreatDoor
set_option linter.unusedVariables false
set_option linter.unusedSimpArgs false
open Go.RowKit Go.Shelf Go.Proofs
attribute [local go_sem ↓] Go.wp_at_zero Go.wp_at_succ
attribute [local go_sem] max2_int min2_int max_two min_two

theorem fromIntP_c (n : Int) (w : World) (h0 : -9223372036854775808 ≤ n) (h1 : n ≤ 9223372036854775807) (ht : P10 w) : Calls Tryz.prog 82 #[.int .i64 n] w fun e w' => e = .returned (.string ⟨(Lib.itoa n).toArray⟩) ∧ Below w.heap.size w w' := by
  have HI := Lib.hid (itoaR_c n w h0 h1 ht)
  clear ht
  go_enter Tryz.func82, Tryz.ntmps82
  go_wp2_with (go_at_call 99; (with_reducible refine HI.out.mono ?_); rintro e w' ⟨rfl, hb⟩; have HB := Lib.hid hb; clear hb)
  go_ret
  exact ⟨rfl, HB.out⟩

theorem itoa_zeros {m : Int} (h : m ≠ 0) (e : Nat) : Lib.itoa m ++ Lib.repeatL [48] e = Lib.itoa (m * 10 ^ e) := by
  have hp : (0 : Int) < 10 ^ e := Int.pow_pos (by decide)
  have hd : ∀ v : Nat, 0 < v → Lib.decDigits (v * 10 ^ e) = Lib.decDigits v ++ Lib.repeatL [48] e := fun v hv => by
    have := decDigits_shift e 0 v hv (Nat.pow_pos (by decide))
    rw [Nat.zero_add, Nat.mul_comm, pad_zero] at this
    exact this
  unfold Lib.itoa
  by_cases h0 : m < 0
  · have h1 := Int.mul_neg_of_neg_of_pos h0 hp
    rw [if_pos h0, if_pos h1, show (m * 10 ^ e).natAbs = m.natAbs * 10 ^ e by rw [Int.natAbs_mul, Int.natAbs_pow]; rfl, hd _ (by omega)]
    rfl
  · have h1 := Int.mul_nonneg (Int.not_lt.1 h0) (Int.le_of_lt hp)
    rw [if_neg h0, if_neg (by omega)]
    have e1 : (m * 10 ^ e).toNat = m.toNat * 10 ^ e := by
      obtain ⟨k, rfl⟩ := Int.eq_ofNat_of_zero_le (Int.not_lt.1 h0)
      rw [show ((k : Int) * 10 ^ e) = ((k * 10 ^ e : Nat) : Int) by rw [Int.natCast_mul, Int.natCast_pow]; rfl]
      rfl
    rw [e1, hd _ (by omega)]
/-- A quotient, rounded down, by Go's operators. -/
theorem floor_by {m P : Int} (hP : 0 < P) : (if m.tmod P < 0 then m.tdiv P - 1 else m.tdiv P) = m.fdiv P := by
  have h1 := Int.mul_tdiv_add_tmod m P
  have h2 := Int.mul_fdiv_add_fmod m P
  have h3 := Int.fmod_nonneg_of_pos m hP
  have h4 := Int.fmod_lt_of_pos m hP
  have h5 : -P < m.tmod P ∧ m.tmod P < P := by
    have a := Int.tmod_lt_of_pos m hP
    have b := Int.tmod_lt_of_pos (-m) hP
    rw [Int.neg_tmod] at b
    omega
  generalize m.tdiv P = q at *
  generalize m.tmod P = r at *
  generalize m.fdiv P = f at *
  generalize m.fmod P = s at *
  have key : ∀ {a b : Int}, P * a < P * b + P → a ≤ b := by
    intro a b h
    have : P * a < P * (b + 1) := by rw [Int.mul_add, Int.mul_one]; exact h
    have := Int.lt_of_mul_lt_mul_left this (Int.le_of_lt hP)
    omega
  by_cases hr : r < 0
  · rw [if_pos hr]
    have a1 : f ≤ q - 1 := key (by rw [Int.mul_sub, Int.mul_one]; omega)
    have a2 : q - 1 ≤ f := key (by rw [Int.mul_sub, Int.mul_one]; omega)
    omega
  · rw [if_neg hr]
    have a1 : f ≤ q := key (by omega)
    have a2 : q ≤ f := key (by omega)
    omega
theorem floor_far {m : Int} {k : Nat} (h : m.natAbs < 10 ^ 12) (hk : 12 ≤ k) : m.fdiv (10 ^ 12) = m.fdiv (10 ^ k) := by
  have hp : (0 : Int) < 10 ^ 12 := by decide
  have hq : (0 : Int) < 10 ^ k := Int.pow_pos (by decide)
  have hle : (10 : Int) ^ 12 ≤ 10 ^ k := pow_mono' (b := 10) (by decide) hk
  have he : (10 : Int) ^ 12 = 1000000000000 := by decide
  have hn : (10 : Nat) ^ 12 = 1000000000000 := by decide
  rw [Int.fdiv_eq_ediv_of_nonneg _ (Int.le_of_lt hp), Int.fdiv_eq_ediv_of_nonneg _ (Int.le_of_lt hq)]
  by_cases h0 : m < 0
  · have e1 : ∀ P : Int, 1000000000000 ≤ P → m / P = -1 := by
      intro P hP
      have a := Int.ediv_mul_add_emod m P
      have b := Int.emod_nonneg m (show P ≠ 0 by omega)
      have c := Int.emod_lt_of_pos m (show 0 < P by omega)
      generalize m / P = q at *
      generalize m % P = r at *
      have q1 : q < 0 := by
        by_cases hq0 : q < 0
        · exact hq0
        · have := Int.mul_nonneg (Int.not_lt.1 hq0) (show 0 ≤ P by omega); omega
      have q2 : -2 < q := by
        by_cases hq0 : -2 < q
        · exact hq0
        · have := Int.mul_le_mul_of_nonneg_right (show q ≤ -2 by omega) (show 0 ≤ P by omega); omega
      omega
    rw [e1 _ (by omega), e1 _ (by omega)]
  · rw [Int.ediv_eq_zero_of_lt (by omega) (by omega), Int.ediv_eq_zero_of_lt (by omega) (by omega)]

/-- What Floor returns. -/
def floorR (m e : Int) : Value := if RV m.natAbs e then .tuple #[.string ⟨(Lib.itoa (floorV m e)).toArray⟩, .int .i64 0] else .tuple #[.string ⟨#[]⟩, .int .i64 1]

set_option maxRecDepth 100000 in
set_option maxHeartbeats 4000000 in
theorem floorR_c (m e : Int) (w : World) (h0 : -9223372036854775808 ≤ m) (h1 : m ≤ 9223372036854775807) (ht : P10 w) :
    Calls Tryz.prog 64 #[.agg #[.int .i64 m, .int .i64 e]] w fun en w' => en = .returned (floorR m e) ∧ Below w.heap.size w w' := by
  obtain ⟨W, hW, k0⟩ : ∃ W, w.alloc (.cells #[.int .i64 m, .int .i64 e] 23) = W ∧ W.heap[w.heap.size]? = some (.cells #[.int .i64 m, .int .i64 e] 23 (0, 0)) := ⟨_, rfl, heap_alloc_new _ _⟩
  have hbel : Below w.heap.size w W := by rw [← hW]; exact (Below.refl _ _).alloc (Nat.le_refl _) _
  have HBEL := Lib.hid hbel
  have HT := Lib.hid (ht.below hbel)
  obtain ⟨c0, c1⟩ := two_cells k0
  have HV := Lib.hid (fun w' => validR_c m e w' h0 h1)
  clear k0 hbel ht
  unfold floorR
  by_cases h : RV m.natAbs e
  rotate_left
  · rw [if_neg h]
    rw [show decide (RV m.natAbs e) = false from decide_eq_false h] at HV
    clear h
    go_enter Tryz.func64, Tryz.ntmps64
    go_wp2_with (go_at_call 33; (with_reducible refine (HV.out _).mono ?_); rintro en w2 ⟨rfl, hbz⟩; have HB := Lib.hid hbz; clear hbz)
    go_ret2
    exact ⟨rfl, belowT HBEL.out HB.out⟩
  rw [if_pos h]
  rw [show decide (RV m.natAbs e) = true from decide_eq_true h] at HV
  obtain ⟨x0, x1, x2⟩ := RV_abs h
  by_cases he : 0 ≤ e
  · have hfl : floorV m e = m * 10 ^ e.toNat := by unfold floorV; rw [if_pos he]
    rw [hfl]
    obtain ⟨k, rfl⟩ := Int.eq_ofNat_of_zero_le he
    rw [Int.toNat_natCast]
    have HFI := Lib.hid (fun w' ht => fromIntP_c m w' h0 h1 ht)
    by_cases hm : m = 0
    · subst hm
      have hs : Lib.itoa (0 * 10 ^ k) = Lib.itoa 0 := by rw [Int.zero_mul]
      rw [hs]
      clear h hfl hs x0
      go_enter Tryz.func64, Tryz.ntmps64
      go_wp2_with (first
        | (go_at_call 33; (with_reducible refine (HV.out _).mono ?_); rintro en w2 ⟨rfl, hbz⟩; have c0 := keep_cell hbz c0; have c1 := keep_cell hbz c1; have HB := Lib.hid hbz; clear hbz)
        | (go_at_call 82; (with_reducible refine (HFI.out _ (HT.out.below HB.out)).mono ?_); rintro en w3 ⟨rfl, hbz⟩; have c0 := keep_cell hbz c0; have c1 := keep_cell hbz c1; have HB := Lib.hid (belowT HB.out hbz); clear hbz))
      go_ret2
      exact ⟨rfl, belowT HBEL.out HB.out⟩
    · have HS := Lib.hid (itoa_zeros hm k)
      have hmb : (m != 0) = true := by simpa using hm
      have HRP := Lib.hid (fun w' => Tryz.strings_Repeat ⟨#[48]⟩ k w' (by omega) (by show 1 * k ≤ _; omega))
      have hl1 := Lib.itoa_length_le m (by omega) (by omega)
      obtain ⟨S1, hS1⟩ : ∃ S, (⟨(Lib.itoa m).toArray⟩ : ByteArray) = S := ⟨_, rfl⟩
      obtain ⟨S2, hS2⟩ : ∃ S, (⟨(Lib.repeatL (ByteArray.mk #[48]).data.toList k).toArray⟩ : ByteArray) = S := ⟨_, rfl⟩
      have hz1 : S1.size = (Lib.itoa m).length := by rw [← hS1]; simp [ByteArray.size]
      have hz2 : S2.size = k := by rw [← hS2]; simp [ByteArray.size, Lib.repeatL_length]
      obtain ⟨i, hi⟩ : ∃ i, (Lib.itoa m).length = i := ⟨_, rfl⟩
      rw [hi] at hz1 hl1
      obtain ⟨J, hJ, hsJ, hlJ⟩ := cat2 S1 S2 hz1 hz2
      have HJL : Hid (J = ⟨(Lib.itoa (m * 10 ^ k)).toArray⟩) := by
        show _ = _
        rw [← HS.out]
        have : J.data.toList = Lib.itoa m ++ Lib.repeatL [48] k := by rw [hlJ, ← hS1, ← hS2]
        cases J with
        | mk d => cases d; simp at this; rw [this]
      rw [hS1] at HFI
      rw [hS2] at HRP
      clear h hfl hm hi hS1 hS2 hlJ
      go_enter Tryz.func64, Tryz.ntmps64
      go_wp2_with (first
        | (go_at_call 33; (with_reducible refine (HV.out _).mono ?_); rintro en w2 ⟨rfl, hbz⟩; have c0 := keep_cell hbz c0; have c1 := keep_cell hbz c1; have HB := Lib.hid hbz; clear hbz)
        | (go_at_call 82; (with_reducible refine (HFI.out _ (HT.out.below HB.out)).mono ?_); rintro en w3 ⟨rfl, hbz⟩; have c0 := keep_cell hbz c0; have c1 := keep_cell hbz c1; have HB := Lib.hid (belowT HB.out hbz); clear hbz)
        | (go_at_call 101; (with_reducible refine (HRP.out _).mono ?_); rintro en w6 ⟨rfl, hbz⟩; have HB := Lib.hid (belowT HB.out hbz); clear hbz))
      go_ret2
      exact ⟨by rw [HJL.out]; rfl, belowT HBEL.out HB.out⟩
  · obtain ⟨K, hK⟩ : ∃ K : Nat, (if (12 : Int) < -e then 12 else -e) = (K : Int) := ⟨(if (12 : Int) < -e then 12 else -e).toNat, by split <;> omega⟩
    have hK12 : K ≤ 12 := by split at hK <;> omega
    have hfl : floorV m e = m.fdiv (10 ^ K) := by
      unfold floorV
      rw [if_neg he]
      by_cases h12 : (12 : Int) < -e
      · rw [if_pos h12] at hK
        obtain rfl : K = 12 := by omega
        exact (floor_far (by have : (10 : Nat) ^ 12 = 1000000000000 := by decide
                             omega) (by omega)).symm
      · rw [if_neg h12] at hK
        congr 2
        omega
    rw [hfl]
    have HBM := Lib.hid (fun P hP => @floor_by m P hP)
    clear hfl h
    go_enter Tryz.func64, Tryz.ntmps64
    go_wp2_with (go_at_call 33; (with_reducible refine (HV.out _).mono ?_); rintro en w2 ⟨rfl, hbz⟩; have c0 := keep_cell hbz c0; have c1 := keep_cell hbz c1; have HB := Lib.hid hbz; clear hbz)
    clear hK
    go_loopg [5, 29] K (fun g p i wr => ∃ (k : Nat) (P : Int), i = .int .i64 (k : Int) ∧ p = .int .i64 P ∧ k + g = K ∧ Hid (P = 10 ^ k) ∧ w2 = wr)
    case atStart => exact ⟨0, 1, rfl, rfl, by omega, rfl, rfl⟩
    case round =>
      obtain ⟨k, P, rfl, rfl, hkg, HP, rfl⟩ := hrel
      have hP0 : 0 < P := by rw [HP.out]; exact Int.pow_pos (by decide)
      by_cases hg : gk = 0
      · obtain rfl : k = K := by omega
        have hfl := HBM.out P hP0
        have hdm := Int.mul_tdiv_add_tmod m P
        have hnz : (P == 0) = false := by rw [beq_eq_false_iff_ne]; omega
        obtain ⟨q, hq⟩ : ∃ q, m.tdiv P = q := ⟨_, rfl⟩
        obtain ⟨r, hr⟩ : ∃ r, m.tmod P = r := ⟨_, rfl⟩
        have hqb : q.natAbs ≤ m.natAbs := by rw [← hq]; exact Int.natAbs_tdiv_le_natAbs m P
        have hrb : r.natAbs ≤ m.natAbs := by
          rw [← hr, Int.natAbs_tmod]; exact Nat.mod_le _ _
        rw [hq, hr] at hfl
        have HFL : Hid ((if r < 0 then q - 1 else q) = m.fdiv (10 ^ k)) := by rw [← HP.out]; exact hfl
        have q1 : -1000000000000 < q := by omega
        have q2 : q < 1000000000000 := by omega
        have r1 : -1000000000000 < r := by omega
        have r2 : r < 1000000000000 := by omega
        clear hfl hdm hqb hrb hg hkg
        by_cases hr0 : r < 0
        · have HF2 : Hid (q - 1 = m.fdiv (10 ^ k)) := by have := HFL.out; rw [if_pos hr0] at this; exact this
          have HFI := Lib.hid (fun w' ht => fromIntP_c (q - 1) w' (by omega) (by omega) ht)
          go_wp2_with (go_at_call 82; (with_reducible refine (HFI.out _ (HT.out.below HB.out)).mono ?_); rintro en w3 ⟨rfl, hbz⟩; have HB3 := Lib.hid (belowT HB.out hbz); clear hbz)
          go_ret2
          exact ⟨by rw [← HF2.out]; rfl, belowT HBEL.out HB3.out⟩
        · have HF2 : Hid (q = m.fdiv (10 ^ k)) := by have := HFL.out; rw [if_neg hr0] at this; exact this
          have HFI := Lib.hid (fun w' ht => fromIntP_c q w' (by omega) (by omega) ht)
          go_wp2_with (go_at_call 82; (with_reducible refine (HFI.out _ (HT.out.below HB.out)).mono ?_); rintro en w3 ⟨rfl, hbz⟩; have HB3 := Lib.hid (belowT HB.out hbz); clear hbz)
          go_ret2
          exact ⟨by rw [← HF2.out]; rfl, belowT HBEL.out HB3.out⟩
      · obtain ⟨g, rfl⟩ : ∃ g, gk = g + 1 := ⟨gk - 1, by omega⟩
        have hPb : P ≤ 100000000000 := by
          rw [HP.out]
          have := pow_mono' (b := 10) (by decide) (i := k) (j := 11) (by omega)
          exact this
        have hkl : (k : Int) < (K : Int) := by omega
        clear hg
        go_wp2_with fail
        go_roundg g
        case measure => omega
        case rel =>
          refine ⟨k + 1, P * 10, by go_num, rfl, by omega, ?_, rfl⟩
          show _ = _
          rw [HP.out, Int.pow_succ]
end Go.Proofs.YtekbfommnmikbaaGreatDoor
/- The law RealWholes: its walk. -/
namespace Go.Proofs.YtekbfommnmikbaaGreatDoor
set_option linter.unusedVariables false
set_option linter.unusedSimpArgs false
open Go.RowKit Go.Shelf Go.Proofs Go.Sort
attribute [local go_sem ↓] Go.wp_at_zero Go.wp_at_succ

theorem res_agr2 (o : Option (Int × Int)) : ∃ z1 z2 er a b k, resS o = .tuple #[.agg #[.int .i64 z1, .int .i64 z2], .int .i64 er] ∧ rdV o = .agg #[.int .i64 a, .int .i64 b, .bool k] ∧ Agr z1 z2 er 0 a b k := by
  rcases o with _ | ⟨a, b⟩
  · exact ⟨_, _, _, _, _, _, rfl, rfl, .inr (.inl ⟨rfl, rfl, rfl, rfl, rfl⟩)⟩
  · exact ⟨_, _, _, _, _, _, rfl, rfl, .inr (.inr ⟨rfl, rfl, rfl, rfl, rfl⟩)⟩
theorem fromN_at (S : ByteArray) (z : Int) (w : World) (h : NumL S.data.toList z) : Calls Tryz.prog 63 #[.string S] w fun en w' => en = .returned (resS (rndS z 0)) ∧ Below w.heap.size w w' := by
  refine (fromN_c S w).mono ?_
  rintro en w' ⟨⟨y, hy, rfl⟩ | ⟨hn, _⟩, hb⟩
  · have : y = z := itoa_inj (hy.1.symm.trans h.1)
    subst this
    exact ⟨rfl, hb⟩
  · exact absurd ⟨z, h⟩ hn
/-- What the calls that read a text give. -/
theorem wholes_facts (S : ByteArray) : ∃ z1 z2 er a b k bad, (∀ w', Calls Tryz.prog 63 #[.string S] w' fun en w2 => en = .returned (.tuple #[.agg #[.int .i64 z1, .int .i64 z2], .int .i64 er]) ∧ Below w'.heap.size w' w2) ∧
    (∀ w', Calls Tryz.prog 65 #[.string S] w' fun en w2 => en = .returned (.bool (bad == 0)) ∧ Below w'.heap.size w' w2) ∧ (bad = 0 ∨ bad = 1) ∧
    (bad = 0 → ∀ w', Calls Tryz.prog 67 #[.string S] w' fun en w2 => en = .returned (.agg #[.int .i64 a, .int .i64 b, .bool k]) ∧ Below w'.heap.size w' w2) ∧ (bad ≠ 0 → a = 0 ∧ b = 0 ∧ k = false) ∧ Agr z1 z2 er bad a b k := by
  by_cases hv : ∃ z, NumL S.data.toList z
  · obtain ⟨z, hz⟩ := hv
    obtain ⟨z1, z2, er, a, b, k, e1, e2, e3⟩ := res_agr2 (rndS z 0)
    refine ⟨z1, z2, er, a, b, k, 0, fun w' => ?_, fun w' => ?_, .inl rfl, fun _ w' => ?_, fun x => absurd rfl x, e3⟩
    · rw [← e1]; exact fromN_at S z w' hz
    · refine (rvalid_c S w').mono ?_
      rintro en w2 ⟨⟨b, rfl, hb⟩, hbz⟩
      obtain rfl : b = true := hb.2 ⟨z, hz⟩
      exact ⟨rfl, hbz⟩
    · rw [← e2]; exact sfromn_c S z w' hz
  · refine ⟨0, 0, 1, 0, 0, false, 1, fun w' => ?_, fun w' => ?_, .inr rfl, fun x => absurd x (by decide), fun _ => ⟨rfl, rfl, rfl⟩, .inl ⟨by decide, rfl, rfl, rfl⟩⟩
    · refine (fromN_c S w').mono ?_
      rintro en w2 ⟨⟨y, hy, _⟩ | ⟨_, rfl⟩, hb⟩
      · exact absurd ⟨y, hy⟩ hv
      · exact ⟨rfl, hb⟩
    · refine (rvalid_c S w').mono ?_
      rintro en w2 ⟨⟨b, rfl, hb⟩, hbz⟩
      have : b = false := by
        cases b
        · rfl
        · exact absurd (hb.1 rfl) hv
      subst this
      exact ⟨rfl, hbz⟩

set_option maxRecDepth 100000 in
set_option maxHeartbeats 2000000 in
theorem wholes1_c (b1 : Nat) (S : ByteArray) (a b : Int) (k : Bool) (w : World) (H : Hid (∀ w', Calls Tryz.prog 67 #[.string S] w' fun en w2 => en = .returned (.agg #[.int .i64 a, .int .i64 b, .bool k]) ∧ Below w'.heap.size w' w2)) (c0 : w.cell? ⟨b1, 0, none⟩ = some (.string S)) :
    Calls Tryz.prog 66 #[.pointer (some ⟨b1, 0, none⟩)] w fun en w' => en = .returned (.agg #[.int .i64 a, .int .i64 b, .bool k]) ∧ Below w.heap.size w w' := by
  obtain ⟨W, hW, k0⟩ : ∃ W, w.alloc (.cells #[.int .i64 0, .int .i64 0, .bool false] 30) = W ∧ W.heap[w.heap.size]? = some (.cells #[.int .i64 0, .int .i64 0, .bool false] 30 (0, 0)) := ⟨_, rfl, heap_alloc_new _ _⟩
  have hbel : Below w.heap.size w W := by rw [← hW]; exact (Below.refl _ _).alloc (Nat.le_refl _) _
  have c0 := keep_cell hbel c0
  have BOX := box3 k0
  have FIN := fin3 k0 (Nat.le_refl _) hbel
  clear k0 hbel
  go_enter Tryz.func66, Tryz.ntmps66
  go_wp2_with (go_at_call 67; (with_reducible refine (H.out _).mono ?_); rintro en w2 ⟨rfl, hbz⟩; have HB := Lib.hid hbz; clear hbz; obtain ⟨d0, d1, d2, f0, f1, f2⟩ := BOX.out _ HB.out)
  obtain ⟨r0, r1, r2, hbb⟩ := FIN.out _ (.int .i64 a) (.int .i64 b) (.bool k) HB.out
  refine bodyPost_ret (v := .agg #[.int .i64 a, .int .i64 b, .bool k]) (by simp [results, Tryz.results66, go_sem, r0, r1, r2]) rfl ?_
  exact ⟨rfl, hbb⟩

set_option maxRecDepth 100000 in
set_option maxHeartbeats 8000000 in
theorem wholes_walk (S : ByteArray) (xm xe : Int) (w : World) (ht : P10 w) (hx0 : -9223372036854775808 ≤ xm) (hx1 : xm ≤ 9223372036854775807) :
    Calls Tryz.prog 13 #[.string S, .agg #[.int .i64 xm, .int .i64 xe]] w fun en w' => en = .returned (.bool true) ∧ Below w.heap.size w w' := by
  obtain ⟨W, hW, k0, k1, hbel, hsz⟩ := bx2h w #[.string S] #[.int .i64 xm, .int .i64 xe] 9 23
  have HBEL := Lib.hid hbel
  have HT := Lib.hid (ht.below hbel)
  have s0 := cell_of_heap k0 0
  simp at s0
  obtain ⟨c0, c1⟩ := two_cells k1
  have HSAN : Hid (∀ w' : World, P10 w' → Calls Tryz.prog 25 #[] w' fun e w2 => e = .returned (.bool true) ∧ Below w'.heap.size w' w2) := sanityR_c
  clear k0 k1 hbel hsz
  by_cases h300 : 300 < S.size
  · have h3i : (300 : Int) < (S.size : Int) := by omega
    go_enter Tryz.func13, Tryz.ntmps13
    go_wp2_with (go_at_call 25; (with_reducible refine (HSAN.out _ HT.out).mono ?_); rintro en w2 ⟨rfl, hbz⟩; have HB := Lib.hid hbz; clear hbz)
    go_ret
    exact ⟨rfl, belowT HBEL.out HB.out⟩
  have h3i : ¬ (300 : Int) < (S.size : Int) := by omega
  obtain ⟨z1, z2, er, a, b, k, bad, hfn, hvl, hb01, hok, hno, hag⟩ := wholes_facts S
  have HFN := Lib.hid hfn
  have HVL := Lib.hid hvl
  have HFL := Lib.hid (fun w' ht => floorR_c xm xe w' hx0 hx1 ht)
  have HSX := Lib.hid (fun w' => svalid_c xm xe w' hx0 hx1)
  have HAGR := Lib.hid (fun w' => agrees_c _ _ _ _ _ _ _ w' hag)
  have HNONE : Hid (∀ w' : World, w'.cell? ⟨w.heap.size, 0, none⟩ = some (.string S) → Calls Tryz.prog 22 #[.int .i64 bad, .func (.func 66) #[] #[.pointer (some ⟨w.heap.size, 0, none⟩)]] w' fun en w2 => en = .returned (.agg #[.int .i64 a, .int .i64 b, .bool k]) ∧ Below w'.heap.size w' w2) := by
    intro w' e0
    by_cases h : bad = 0
    · have hr := hok h
      rw [h]
      exact none_ok _ _ a b k w' (enters_of Tryz.func66 (by kernel_rfl) rfl) fun w2 hb => wholes1_c _ S a b k w2 hr (keep_cell hb e0)
    · obtain ⟨rfl, rfl, rfl⟩ := hno h
      exact none_bad _ _ w' h
  have HB01 := Lib.hid hb01
  have hfl := fun h : RV xm.natAbs xe => fun w' => sfloor_c xm xe w' h
  clear hfn hvl hok hno hag hb01
  by_cases h : RV xm.natAbs xe
  · have HSF := Lib.hid (hfl h)
    rw [show decide (RV xm.natAbs xe) = true from decide_eq_true h] at HSX
    unfold floorR at HFL
    rw [if_pos h] at HFL
    obtain ⟨FS, hFS⟩ : ∃ s, (⟨(Lib.itoa (floorV xm xe)).toArray⟩ : ByteArray) = s := ⟨_, rfl⟩
    rw [hFS] at HFL HSF
    clear hfl h hFS hx0 hx1
    go_enter Tryz.func13, Tryz.ntmps13
    go_upto_if 26 with (first
      | (go_at_call 63; (with_reducible refine (HFN.out _).mono ?_); rintro en w2 ⟨rfl, hbz⟩; have c0 := keep_cell hbz c0; have c1 := keep_cell hbz c1; have Ac0 := fun o => keep_cell ((Below.refl _ _).alloc (Nat.le_refl _) o) c0; have Ac1 := fun o => keep_cell ((Below.refl _ _).alloc (Nat.le_refl _) o) c1; have s0 := keep_cell hbz s0; have As0 := fun o => keep_cell ((Below.refl _ _).alloc (Nat.le_refl _) o) s0; have HB := Lib.hid hbz; clear hbz)
      | (go_at_call 64; (with_reducible refine (HFL.out _ (HT.out.below (belowA HB.out _))).mono ?_); rintro en w3 ⟨rfl, hbz⟩; have c0 := keep_cell hbz (keep_cell ((Below.refl _ _).alloc (Nat.le_refl _) _) c0); have c1 := keep_cell hbz (keep_cell ((Below.refl _ _).alloc (Nat.le_refl _) _) c1); obtain ⟨q0, q1⟩ := two_cells (heapB hbz (heap_alloc_new _ _)); have Ac0 := fun o => keep_cell ((Below.refl _ _).alloc (Nat.le_refl _) o) c0; have Ac1 := fun o => keep_cell ((Below.refl _ _).alloc (Nat.le_refl _) o) c1; have Aq0 := fun o => keep_cell ((Below.refl _ _).alloc (Nat.le_refl _) o) q0; have Aq1 := fun o => keep_cell ((Below.refl _ _).alloc (Nat.le_refl _) o) q1; have s0 := keep_cell hbz (keep_cell ((Below.refl _ _).alloc (Nat.le_refl _) _) s0); have As0 := fun o => keep_cell ((Below.refl _ _).alloc (Nat.le_refl _) o) s0; have HB := Lib.hid (belowT (belowA HB.out _) hbz); clear hbz)
      | (go_at_call 65; (with_reducible refine (HVL.out _).mono ?_); rintro en ZW ⟨rfl, hbz⟩; have c0 := keep_cell hbz c0; have c1 := keep_cell hbz c1; have q0 := keep_cell hbz q0; have q1 := keep_cell hbz q1; have Ac0 := fun o => keep_cell ((Below.refl _ _).alloc (Nat.le_refl _) o) c0; have Ac1 := fun o => keep_cell ((Below.refl _ _).alloc (Nat.le_refl _) o) c1; have Aq0 := fun o => keep_cell ((Below.refl _ _).alloc (Nat.le_refl _) o) q0; have Aq1 := fun o => keep_cell ((Below.refl _ _).alloc (Nat.le_refl _) o) q1; have s0 := keep_cell hbz s0; have As0 := fun o => keep_cell ((Below.refl _ _).alloc (Nat.le_refl _) o) s0; have HB := Lib.hid (belowT HB.out hbz); clear hbz))
    have HBZ := HB
    clear HB Ac0 Ac1 Aq0 Aq1 As0
    go_cut [9] from 26 to 26 (fun v wx => v = .int .i64 bad ∧ wx = ZW)
    case first =>
      rcases HB01.out with rfl | rfl
      · go_wp2_with fail
        go_meet
        exact ⟨rfl, rfl⟩
      · go_wp2_with fail
        go_meet
        exact ⟨rfl, rfl⟩
    obtain ⟨rfl, hT⟩ := hcut
    rw [hT]
    clear hT
    go_upto_region 8 with fail
    go_cut [34] from 27 to 34 (fun v wx => v = .bool false ∧ Hid (Below ZW.heap.size ZW wx))
    case first =>
      have HSTL : StableL [(fun _ v => v = .agg #[.int .i64 z1, .int .i64 z2]), (fun _ v => v = .int .i64 er), (fun _ v => v = .int .i64 bad), (fun _ v => v = .int .i64 bad), (fun _ v => v = .func (.func 66) #[] #[.pointer (some ⟨w.heap.size, 0, none⟩)]), (fun _ v => v = .agg #[.int .i64 a, .int .i64 b, .bool k]), (fun _ v => v = .bool true), (fun _ v => v = .bool false)] := ⟨(fun _ _ _ _ h => h), (fun _ _ _ _ h => h), (fun _ _ _ _ h => h), (fun _ _ _ _ h => h), (fun _ _ _ _ h => h), (fun _ _ _ _ h => h), (fun _ _ _ _ h => h), (fun _ _ _ _ h => h), trivial⟩
      refine wp_region_p [27, 28, 29, 30, 31, 32, 33, 34] [27, 28, 29, 30, 31, 32, 33, 34] [(fun _ v => v = .agg #[.int .i64 z1, .int .i64 z2]), (fun _ v => v = .int .i64 er), (fun _ v => v = .int .i64 bad), (fun _ v => v = .int .i64 bad), (fun _ v => v = .func (.func 66) #[] #[.pointer (some ⟨w.heap.size, 0, none⟩)]), (fun _ v => v = .agg #[.int .i64 a, .int .i64 b, .bool k]), (fun _ v => v = .bool true), (fun _ v => v = .bool false)] 8 (fun _ _ => True) 8 rfl (by kernel_rfl) (by kernel_rfl) ?_ ⟨?_, ?_, ?_, ?_, ?_, ?_, ?_, ?_, trivial⟩
      · intro l us wx hl hJ
        have HNF := hJ.nofin (by kernel_rfl)
        have HB := Lib.hid (hJ.below HNF)
        have h34 : us 34 = .bool false := hJ.val HNF 7 (by decide) (hl 7 (by decide))
        clear hl hJ
        simp only [At, List.foldl_cons, List.foldl_nil, List.setIfInBounds_toArray, List.set_cons_zero, List.set_cons_succ]
        go_wp2_with fail
        go_meet
        exact ⟨by first | rfl | assumption, HB⟩
      · refine opAt rfl ?_
        intro l us wx hJ hp hl K hK
        have HJ := Lib.hid hJ; have HP := Lib.hid hp; have HLI := Lib.hid hl; have HF := Lib.hid (hJ.live hl (by decide)); have HBX := Lib.hid (hJ.below HF.out); have HK := hK
        clear hJ hp hl hK
        simp only [At, List.foldl_cons, List.foldl_nil, List.setIfInBounds_toArray, List.set_cons_zero, List.set_cons_succ] at HK
        have HK := Lib.hid HK
        have q0 := keep_cell HBX.out q0
        have q1 := keep_cell HBX.out q1
        simp only [At, List.foldl_cons, List.foldl_nil, List.setIfInBounds_toArray, List.set_cons_zero, List.set_cons_succ]
        refine ⟨?_⟩
        go_simp
        exact HK.out (upd us 27 (.agg #[.int .i64 z1, .int .i64 z2])) wx (by exact HJ.out.go HSTL (by kernel_rfl) 0 HF.out (by decide) (by decide) HP.out (Below.refl _ _) (.agg #[.int .i64 z1, .int .i64 z2]) (rfl))
      · refine opAt rfl ?_
        intro l us wx hJ hp hl K hK
        have HJ := Lib.hid hJ; have HP := Lib.hid hp; have HLI := Lib.hid hl; have HF := Lib.hid (hJ.live hl (by decide)); have HBX := Lib.hid (hJ.below HF.out); have HK := hK
        clear hJ hp hl hK
        simp only [At, List.foldl_cons, List.foldl_nil, List.setIfInBounds_toArray, List.set_cons_zero, List.set_cons_succ] at HK
        have HK := Lib.hid HK
        simp only [At, List.foldl_cons, List.foldl_nil, List.setIfInBounds_toArray, List.set_cons_zero, List.set_cons_succ]
        refine ⟨?_⟩
        go_simp
        exact HK.out (upd us 28 (.int .i64 er)) wx (by exact HJ.out.go HSTL (by kernel_rfl) 1 HF.out (by decide) (by decide) HP.out (Below.refl _ _) (.int .i64 er) (rfl))
      · refine opAt rfl ?_
        intro l us wx hJ hp hl K hK
        have HJ := Lib.hid hJ; have HP := Lib.hid hp; have HLI := Lib.hid hl; have HF := Lib.hid (hJ.live hl (by decide)); have HBX := Lib.hid (hJ.below HF.out); have HK := hK
        clear hJ hp hl hK
        simp only [At, List.foldl_cons, List.foldl_nil, List.setIfInBounds_toArray, List.set_cons_zero, List.set_cons_succ] at HK
        have HK := Lib.hid HK
        simp only [At, List.foldl_cons, List.foldl_nil, List.setIfInBounds_toArray, List.set_cons_zero, List.set_cons_succ]
        refine ⟨?_⟩
        go_simp
        exact HK.out (upd us 29 (.int .i64 bad)) wx (by exact HJ.out.go HSTL (by kernel_rfl) 2 HF.out (by decide) (by decide) HP.out (Below.refl _ _) (.int .i64 bad) (rfl))
      · refine opAt rfl ?_
        intro l us wx hJ hp hl K hK
        have HJ := Lib.hid hJ; have HP := Lib.hid hp; have HLI := Lib.hid hl; have HF := Lib.hid (hJ.live hl (by decide)); have HBX := Lib.hid (hJ.below HF.out); have HK := hK
        clear hJ hp hl hK
        simp only [At, List.foldl_cons, List.foldl_nil, List.setIfInBounds_toArray, List.set_cons_zero, List.set_cons_succ] at HK
        have HK := Lib.hid HK
        simp only [At, List.foldl_cons, List.foldl_nil, List.setIfInBounds_toArray, List.set_cons_zero, List.set_cons_succ]
        refine ⟨?_⟩
        go_simp
        exact HK.out (upd us 30 (.int .i64 bad)) wx (by exact HJ.out.go HSTL (by kernel_rfl) 3 HF.out (by decide) (by decide) HP.out (Below.refl _ _) (.int .i64 bad) (rfl))
      · refine opAt rfl ?_
        intro l us wx hJ hp hl K hK
        have HJ := Lib.hid hJ; have HP := Lib.hid hp; have HLI := Lib.hid hl; have HF := Lib.hid (hJ.live hl (by decide)); have HBX := Lib.hid (hJ.below HF.out); have HK := hK
        clear hJ hp hl hK
        simp only [At, List.foldl_cons, List.foldl_nil, List.setIfInBounds_toArray, List.set_cons_zero, List.set_cons_succ] at HK
        have HK := Lib.hid HK
        simp only [At, List.foldl_cons, List.foldl_nil, List.setIfInBounds_toArray, List.set_cons_zero, List.set_cons_succ]
        refine ⟨?_⟩
        go_simp
        exact HK.out (upd us 31 (.func (.func 66) #[] #[.pointer (some ⟨w.heap.size, 0, none⟩)])) wx (by exact HJ.out.go HSTL (by kernel_rfl) 4 HF.out (by decide) (by decide) HP.out (Below.refl _ _) (.func (.func 66) #[] #[.pointer (some ⟨w.heap.size, 0, none⟩)]) (rfl))
      · refine opAt rfl ?_
        intro l us wx hJ hp hl K hK
        have HJ := Lib.hid hJ; have HP := Lib.hid hp; have HLI := Lib.hid hl; have HF := Lib.hid (hJ.live hl (by decide)); have HBX := Lib.hid (hJ.below HF.out); have HK := hK
        clear hJ hp hl hK
        simp only [At, List.foldl_cons, List.foldl_nil, List.setIfInBounds_toArray, List.set_cons_zero, List.set_cons_succ] at HK
        have HK := Lib.hid HK
        have h30 : us 30 = .int .i64 bad := HJ.out.val HF.out 3 (by decide) (HP.out 3 (by kernel_rfl))
        have h31 : us 31 = .func (.func 66) #[] #[.pointer (some ⟨w.heap.size, 0, none⟩)] := HJ.out.val HF.out 4 (by decide) (HP.out 4 (by kernel_rfl))
        have s0 := keep_cell HBX.out s0
        simp only [At, List.foldl_cons, List.foldl_nil, List.setIfInBounds_toArray, List.set_cons_zero, List.set_cons_succ]
        refine ⟨?_⟩
        go_simp
        go_wp2_with ((go_at_call 22; (with_reducible refine (HNONE.out _ s0).mono ?_); rintro en w9 ⟨rfl, hbz⟩; have HC := Lib.hid hbz; clear hbz))
        exact HK.out (upd (upd (upd us 30 (.int .i64 bad)) 31 (.func (.func 66) #[] #[.pointer (some ⟨w.heap.size, 0, none⟩)])) 32 (.agg #[.int .i64 a, .int .i64 b, .bool k])) w9 (by rw [upd_self h30, upd_self h31]; exact HJ.out.go HSTL (by kernel_rfl) 5 HF.out (by decide) (by decide) HP.out HC.out (.agg #[.int .i64 a, .int .i64 b, .bool k]) (rfl))
      · refine opAt rfl ?_
        intro l us wx hJ hp hl K hK
        have HJ := Lib.hid hJ; have HP := Lib.hid hp; have HLI := Lib.hid hl; have HF := Lib.hid (hJ.live hl (by decide)); have HBX := Lib.hid (hJ.below HF.out); have HK := hK
        clear hJ hp hl hK
        simp only [At, List.foldl_cons, List.foldl_nil, List.setIfInBounds_toArray, List.set_cons_zero, List.set_cons_succ] at HK
        have HK := Lib.hid HK
        have h27 : us 27 = .agg #[.int .i64 z1, .int .i64 z2] := HJ.out.val HF.out 0 (by decide) (HP.out 0 (by kernel_rfl))
        have h28 : us 28 = .int .i64 er := HJ.out.val HF.out 1 (by decide) (HP.out 1 (by kernel_rfl))
        have h29 : us 29 = .int .i64 bad := HJ.out.val HF.out 2 (by decide) (HP.out 2 (by kernel_rfl))
        have h32 : us 32 = .agg #[.int .i64 a, .int .i64 b, .bool k] := HJ.out.val HF.out 5 (by decide) (HP.out 5 (by kernel_rfl))
        simp only [At, List.foldl_cons, List.foldl_nil, List.setIfInBounds_toArray, List.set_cons_zero, List.set_cons_succ]
        refine ⟨?_⟩
        go_simp
        go_wp2_with ((go_at_call 21; (with_reducible refine (HAGR.out _).mono ?_); rintro en w9 ⟨rfl, hbz⟩; have HC := Lib.hid hbz; clear hbz))
        exact HK.out (upd (upd (upd (upd (upd us 27 (.agg #[.int .i64 z1, .int .i64 z2])) 28 (.int .i64 er)) 29 (.int .i64 bad)) 32 (.agg #[.int .i64 a, .int .i64 b, .bool k])) 33 (.bool true)) w9 (by rw [upd_self h27, upd_self h28, upd_self h29, upd_self h32]; exact HJ.out.go HSTL (by kernel_rfl) 6 HF.out (by decide) (by decide) HP.out HC.out (.bool true) (rfl))
      · refine opAt rfl ?_
        intro l us wx hJ hp hl K hK
        have HJ := Lib.hid hJ; have HP := Lib.hid hp; have HLI := Lib.hid hl; have HF := Lib.hid (hJ.live hl (by decide)); have HBX := Lib.hid (hJ.below HF.out); have HK := hK
        clear hJ hp hl hK
        simp only [At, List.foldl_cons, List.foldl_nil, List.setIfInBounds_toArray, List.set_cons_zero, List.set_cons_succ] at HK
        have HK := Lib.hid HK
        have h33 : us 33 = .bool true := HJ.out.val HF.out 6 (by decide) (HP.out 6 (by kernel_rfl))
        simp only [At, List.foldl_cons, List.foldl_nil, List.setIfInBounds_toArray, List.set_cons_zero, List.set_cons_succ]
        refine ⟨?_⟩
        go_simp
        exact HK.out (upd (upd us 33 (.bool true)) 34 (.bool false)) wx (by rw [upd_self h33]; exact HJ.out.go HSTL (by kernel_rfl) 7 HF.out (by decide) (by decide) HP.out (Below.refl _ _) (.bool false) (rfl))
    obtain ⟨rfl, HBC⟩ := hcut
    obtain ⟨T, hT⟩ : ∃ T, wc = T := ⟨_, rfl⟩
    rw [hT] at HBC ⊢
    clear hT
    have c0 := keep_cell HBC.out c0; have c1 := keep_cell HBC.out c1
    have HB := Lib.hid (belowT HBZ.out HBC.out)
    clear HBZ HBC
    go_wp2_with (first
      | (go_at_call 31; (with_reducible refine (HSX.out _).mono ?_); rintro en w8 ⟨rfl, hbz⟩; have c0 := keep_cell hbz c0; have c1 := keep_cell hbz c1; have Ac0 := fun o => keep_cell ((Below.refl _ _).alloc (Nat.le_refl _) o) c0; have Ac1 := fun o => keep_cell ((Below.refl _ _).alloc (Nat.le_refl _) o) c1; have HB := Lib.hid (belowT HB.out hbz); clear hbz)
      | (go_at_call 25; (with_reducible refine (HSAN.out _ (HT.out.below HB.out)).mono ?_); rintro en w9 ⟨rfl, hbz⟩; have c0 := keep_cell hbz c0; have c1 := keep_cell hbz c1; have Ac0 := fun o => keep_cell ((Below.refl _ _).alloc (Nat.le_refl _) o) c0; have Ac1 := fun o => keep_cell ((Below.refl _ _).alloc (Nat.le_refl _) o) c1; have HB := Lib.hid (belowT HB.out hbz); clear hbz)
      | (go_at_call 68; (with_reducible refine (HSF.out _).mono ?_); rintro en w10 ⟨rfl, hbz⟩; have c0 := keep_cell hbz c0; have c1 := keep_cell hbz c1; have Ac0 := fun o => keep_cell ((Below.refl _ _).alloc (Nat.le_refl _) o) c0; have Ac1 := fun o => keep_cell ((Below.refl _ _).alloc (Nat.le_refl _) o) c1; have HB := Lib.hid (belowT HB.out hbz); clear hbz))
    go_ret
    exact ⟨rfl, belowT HBEL.out HB.out⟩
  · rw [show decide (RV xm.natAbs xe) = false from decide_eq_false h] at HSX
    unfold floorR at HFL
    rw [if_neg h] at HFL
    clear hfl h hx0 hx1
    go_enter Tryz.func13, Tryz.ntmps13
    go_upto_if 26 with (first
      | (go_at_call 63; (with_reducible refine (HFN.out _).mono ?_); rintro en w2 ⟨rfl, hbz⟩; have c0 := keep_cell hbz c0; have c1 := keep_cell hbz c1; have Ac0 := fun o => keep_cell ((Below.refl _ _).alloc (Nat.le_refl _) o) c0; have Ac1 := fun o => keep_cell ((Below.refl _ _).alloc (Nat.le_refl _) o) c1; have s0 := keep_cell hbz s0; have As0 := fun o => keep_cell ((Below.refl _ _).alloc (Nat.le_refl _) o) s0; have HB := Lib.hid hbz; clear hbz)
      | (go_at_call 64; (with_reducible refine (HFL.out _ (HT.out.below (belowA HB.out _))).mono ?_); rintro en w3 ⟨rfl, hbz⟩; have c0 := keep_cell hbz (keep_cell ((Below.refl _ _).alloc (Nat.le_refl _) _) c0); have c1 := keep_cell hbz (keep_cell ((Below.refl _ _).alloc (Nat.le_refl _) _) c1); obtain ⟨q0, q1⟩ := two_cells (heapB hbz (heap_alloc_new _ _)); have Ac0 := fun o => keep_cell ((Below.refl _ _).alloc (Nat.le_refl _) o) c0; have Ac1 := fun o => keep_cell ((Below.refl _ _).alloc (Nat.le_refl _) o) c1; have Aq0 := fun o => keep_cell ((Below.refl _ _).alloc (Nat.le_refl _) o) q0; have Aq1 := fun o => keep_cell ((Below.refl _ _).alloc (Nat.le_refl _) o) q1; have s0 := keep_cell hbz (keep_cell ((Below.refl _ _).alloc (Nat.le_refl _) _) s0); have As0 := fun o => keep_cell ((Below.refl _ _).alloc (Nat.le_refl _) o) s0; have HB := Lib.hid (belowT (belowA HB.out _) hbz); clear hbz)
      | (go_at_call 65; (with_reducible refine (HVL.out _).mono ?_); rintro en ZW ⟨rfl, hbz⟩; have c0 := keep_cell hbz c0; have c1 := keep_cell hbz c1; have q0 := keep_cell hbz q0; have q1 := keep_cell hbz q1; have Ac0 := fun o => keep_cell ((Below.refl _ _).alloc (Nat.le_refl _) o) c0; have Ac1 := fun o => keep_cell ((Below.refl _ _).alloc (Nat.le_refl _) o) c1; have Aq0 := fun o => keep_cell ((Below.refl _ _).alloc (Nat.le_refl _) o) q0; have Aq1 := fun o => keep_cell ((Below.refl _ _).alloc (Nat.le_refl _) o) q1; have s0 := keep_cell hbz s0; have As0 := fun o => keep_cell ((Below.refl _ _).alloc (Nat.le_refl _) o) s0; have HB := Lib.hid (belowT HB.out hbz); clear hbz))
    have HBZ := HB
    clear HB Ac0 Ac1 Aq0 Aq1 As0
    go_cut [9] from 26 to 26 (fun v wx => v = .int .i64 bad ∧ wx = ZW)
    case first =>
      rcases HB01.out with rfl | rfl
      · go_wp2_with fail
        go_meet
        exact ⟨rfl, rfl⟩
      · go_wp2_with fail
        go_meet
        exact ⟨rfl, rfl⟩
    obtain ⟨rfl, hT⟩ := hcut
    rw [hT]
    clear hT
    go_upto_region 8 with fail
    go_cut [34] from 27 to 34 (fun v wx => v = .bool false ∧ Hid (Below ZW.heap.size ZW wx))
    case first =>
      have HSTL : StableL [(fun _ v => v = .agg #[.int .i64 z1, .int .i64 z2]), (fun _ v => v = .int .i64 er), (fun _ v => v = .int .i64 bad), (fun _ v => v = .int .i64 bad), (fun _ v => v = .func (.func 66) #[] #[.pointer (some ⟨w.heap.size, 0, none⟩)]), (fun _ v => v = .agg #[.int .i64 a, .int .i64 b, .bool k]), (fun _ v => v = .bool true), (fun _ v => v = .bool false)] := ⟨(fun _ _ _ _ h => h), (fun _ _ _ _ h => h), (fun _ _ _ _ h => h), (fun _ _ _ _ h => h), (fun _ _ _ _ h => h), (fun _ _ _ _ h => h), (fun _ _ _ _ h => h), (fun _ _ _ _ h => h), trivial⟩
      refine wp_region_p [27, 28, 29, 30, 31, 32, 33, 34] [27, 28, 29, 30, 31, 32, 33, 34] [(fun _ v => v = .agg #[.int .i64 z1, .int .i64 z2]), (fun _ v => v = .int .i64 er), (fun _ v => v = .int .i64 bad), (fun _ v => v = .int .i64 bad), (fun _ v => v = .func (.func 66) #[] #[.pointer (some ⟨w.heap.size, 0, none⟩)]), (fun _ v => v = .agg #[.int .i64 a, .int .i64 b, .bool k]), (fun _ v => v = .bool true), (fun _ v => v = .bool false)] 8 (fun _ _ => True) 8 rfl (by kernel_rfl) (by kernel_rfl) ?_ ⟨?_, ?_, ?_, ?_, ?_, ?_, ?_, ?_, trivial⟩
      · intro l us wx hl hJ
        have HNF := hJ.nofin (by kernel_rfl)
        have HB := Lib.hid (hJ.below HNF)
        have h34 : us 34 = .bool false := hJ.val HNF 7 (by decide) (hl 7 (by decide))
        clear hl hJ
        simp only [At, List.foldl_cons, List.foldl_nil, List.setIfInBounds_toArray, List.set_cons_zero, List.set_cons_succ]
        go_wp2_with fail
        go_meet
        exact ⟨by first | rfl | assumption, HB⟩
      · refine opAt rfl ?_
        intro l us wx hJ hp hl K hK
        have HJ := Lib.hid hJ; have HP := Lib.hid hp; have HLI := Lib.hid hl; have HF := Lib.hid (hJ.live hl (by decide)); have HBX := Lib.hid (hJ.below HF.out); have HK := hK
        clear hJ hp hl hK
        simp only [At, List.foldl_cons, List.foldl_nil, List.setIfInBounds_toArray, List.set_cons_zero, List.set_cons_succ] at HK
        have HK := Lib.hid HK
        have q0 := keep_cell HBX.out q0
        have q1 := keep_cell HBX.out q1
        simp only [At, List.foldl_cons, List.foldl_nil, List.setIfInBounds_toArray, List.set_cons_zero, List.set_cons_succ]
        refine ⟨?_⟩
        go_simp
        exact HK.out (upd us 27 (.agg #[.int .i64 z1, .int .i64 z2])) wx (by exact HJ.out.go HSTL (by kernel_rfl) 0 HF.out (by decide) (by decide) HP.out (Below.refl _ _) (.agg #[.int .i64 z1, .int .i64 z2]) (rfl))
      · refine opAt rfl ?_
        intro l us wx hJ hp hl K hK
        have HJ := Lib.hid hJ; have HP := Lib.hid hp; have HLI := Lib.hid hl; have HF := Lib.hid (hJ.live hl (by decide)); have HBX := Lib.hid (hJ.below HF.out); have HK := hK
        clear hJ hp hl hK
        simp only [At, List.foldl_cons, List.foldl_nil, List.setIfInBounds_toArray, List.set_cons_zero, List.set_cons_succ] at HK
        have HK := Lib.hid HK
        simp only [At, List.foldl_cons, List.foldl_nil, List.setIfInBounds_toArray, List.set_cons_zero, List.set_cons_succ]
        refine ⟨?_⟩
        go_simp
        exact HK.out (upd us 28 (.int .i64 er)) wx (by exact HJ.out.go HSTL (by kernel_rfl) 1 HF.out (by decide) (by decide) HP.out (Below.refl _ _) (.int .i64 er) (rfl))
      · refine opAt rfl ?_
        intro l us wx hJ hp hl K hK
        have HJ := Lib.hid hJ; have HP := Lib.hid hp; have HLI := Lib.hid hl; have HF := Lib.hid (hJ.live hl (by decide)); have HBX := Lib.hid (hJ.below HF.out); have HK := hK
        clear hJ hp hl hK
        simp only [At, List.foldl_cons, List.foldl_nil, List.setIfInBounds_toArray, List.set_cons_zero, List.set_cons_succ] at HK
        have HK := Lib.hid HK
        simp only [At, List.foldl_cons, List.foldl_nil, List.setIfInBounds_toArray, List.set_cons_zero, List.set_cons_succ]
        refine ⟨?_⟩
        go_simp
        exact HK.out (upd us 29 (.int .i64 bad)) wx (by exact HJ.out.go HSTL (by kernel_rfl) 2 HF.out (by decide) (by decide) HP.out (Below.refl _ _) (.int .i64 bad) (rfl))
      · refine opAt rfl ?_
        intro l us wx hJ hp hl K hK
        have HJ := Lib.hid hJ; have HP := Lib.hid hp; have HLI := Lib.hid hl; have HF := Lib.hid (hJ.live hl (by decide)); have HBX := Lib.hid (hJ.below HF.out); have HK := hK
        clear hJ hp hl hK
        simp only [At, List.foldl_cons, List.foldl_nil, List.setIfInBounds_toArray, List.set_cons_zero, List.set_cons_succ] at HK
        have HK := Lib.hid HK
        simp only [At, List.foldl_cons, List.foldl_nil, List.setIfInBounds_toArray, List.set_cons_zero, List.set_cons_succ]
        refine ⟨?_⟩
        go_simp
        exact HK.out (upd us 30 (.int .i64 bad)) wx (by exact HJ.out.go HSTL (by kernel_rfl) 3 HF.out (by decide) (by decide) HP.out (Below.refl _ _) (.int .i64 bad) (rfl))
      · refine opAt rfl ?_
        intro l us wx hJ hp hl K hK
        have HJ := Lib.hid hJ; have HP := Lib.hid hp; have HLI := Lib.hid hl; have HF := Lib.hid (hJ.live hl (by decide)); have HBX := Lib.hid (hJ.below HF.out); have HK := hK
        clear hJ hp hl hK
        simp only [At, List.foldl_cons, List.foldl_nil, List.setIfInBounds_toArray, List.set_cons_zero, List.set_cons_succ] at HK
        have HK := Lib.hid HK
        simp only [At, List.foldl_cons, List.foldl_nil, List.setIfInBounds_toArray, List.set_cons_zero, List.set_cons_succ]
        refine ⟨?_⟩
        go_simp
        exact HK.out (upd us 31 (.func (.func 66) #[] #[.pointer (some ⟨w.heap.size, 0, none⟩)])) wx (by exact HJ.out.go HSTL (by kernel_rfl) 4 HF.out (by decide) (by decide) HP.out (Below.refl _ _) (.func (.func 66) #[] #[.pointer (some ⟨w.heap.size, 0, none⟩)]) (rfl))
      · refine opAt rfl ?_
        intro l us wx hJ hp hl K hK
        have HJ := Lib.hid hJ; have HP := Lib.hid hp; have HLI := Lib.hid hl; have HF := Lib.hid (hJ.live hl (by decide)); have HBX := Lib.hid (hJ.below HF.out); have HK := hK
        clear hJ hp hl hK
        simp only [At, List.foldl_cons, List.foldl_nil, List.setIfInBounds_toArray, List.set_cons_zero, List.set_cons_succ] at HK
        have HK := Lib.hid HK
        have h30 : us 30 = .int .i64 bad := HJ.out.val HF.out 3 (by decide) (HP.out 3 (by kernel_rfl))
        have h31 : us 31 = .func (.func 66) #[] #[.pointer (some ⟨w.heap.size, 0, none⟩)] := HJ.out.val HF.out 4 (by decide) (HP.out 4 (by kernel_rfl))
        have s0 := keep_cell HBX.out s0
        simp only [At, List.foldl_cons, List.foldl_nil, List.setIfInBounds_toArray, List.set_cons_zero, List.set_cons_succ]
        refine ⟨?_⟩
        go_simp
        go_wp2_with ((go_at_call 22; (with_reducible refine (HNONE.out _ s0).mono ?_); rintro en w9 ⟨rfl, hbz⟩; have HC := Lib.hid hbz; clear hbz))
        exact HK.out (upd (upd (upd us 30 (.int .i64 bad)) 31 (.func (.func 66) #[] #[.pointer (some ⟨w.heap.size, 0, none⟩)])) 32 (.agg #[.int .i64 a, .int .i64 b, .bool k])) w9 (by rw [upd_self h30, upd_self h31]; exact HJ.out.go HSTL (by kernel_rfl) 5 HF.out (by decide) (by decide) HP.out HC.out (.agg #[.int .i64 a, .int .i64 b, .bool k]) (rfl))
      · refine opAt rfl ?_
        intro l us wx hJ hp hl K hK
        have HJ := Lib.hid hJ; have HP := Lib.hid hp; have HLI := Lib.hid hl; have HF := Lib.hid (hJ.live hl (by decide)); have HBX := Lib.hid (hJ.below HF.out); have HK := hK
        clear hJ hp hl hK
        simp only [At, List.foldl_cons, List.foldl_nil, List.setIfInBounds_toArray, List.set_cons_zero, List.set_cons_succ] at HK
        have HK := Lib.hid HK
        have h27 : us 27 = .agg #[.int .i64 z1, .int .i64 z2] := HJ.out.val HF.out 0 (by decide) (HP.out 0 (by kernel_rfl))
        have h28 : us 28 = .int .i64 er := HJ.out.val HF.out 1 (by decide) (HP.out 1 (by kernel_rfl))
        have h29 : us 29 = .int .i64 bad := HJ.out.val HF.out 2 (by decide) (HP.out 2 (by kernel_rfl))
        have h32 : us 32 = .agg #[.int .i64 a, .int .i64 b, .bool k] := HJ.out.val HF.out 5 (by decide) (HP.out 5 (by kernel_rfl))
        simp only [At, List.foldl_cons, List.foldl_nil, List.setIfInBounds_toArray, List.set_cons_zero, List.set_cons_succ]
        refine ⟨?_⟩
        go_simp
        go_wp2_with ((go_at_call 21; (with_reducible refine (HAGR.out _).mono ?_); rintro en w9 ⟨rfl, hbz⟩; have HC := Lib.hid hbz; clear hbz))
        exact HK.out (upd (upd (upd (upd (upd us 27 (.agg #[.int .i64 z1, .int .i64 z2])) 28 (.int .i64 er)) 29 (.int .i64 bad)) 32 (.agg #[.int .i64 a, .int .i64 b, .bool k])) 33 (.bool true)) w9 (by rw [upd_self h27, upd_self h28, upd_self h29, upd_self h32]; exact HJ.out.go HSTL (by kernel_rfl) 6 HF.out (by decide) (by decide) HP.out HC.out (.bool true) (rfl))
      · refine opAt rfl ?_
        intro l us wx hJ hp hl K hK
        have HJ := Lib.hid hJ; have HP := Lib.hid hp; have HLI := Lib.hid hl; have HF := Lib.hid (hJ.live hl (by decide)); have HBX := Lib.hid (hJ.below HF.out); have HK := hK
        clear hJ hp hl hK
        simp only [At, List.foldl_cons, List.foldl_nil, List.setIfInBounds_toArray, List.set_cons_zero, List.set_cons_succ] at HK
        have HK := Lib.hid HK
        have h33 : us 33 = .bool true := HJ.out.val HF.out 6 (by decide) (HP.out 6 (by kernel_rfl))
        simp only [At, List.foldl_cons, List.foldl_nil, List.setIfInBounds_toArray, List.set_cons_zero, List.set_cons_succ]
        refine ⟨?_⟩
        go_simp
        exact HK.out (upd (upd us 33 (.bool true)) 34 (.bool false)) wx (by rw [upd_self h33]; exact HJ.out.go HSTL (by kernel_rfl) 7 HF.out (by decide) (by decide) HP.out (Below.refl _ _) (.bool false) (rfl))
    obtain ⟨rfl, HBC⟩ := hcut
    obtain ⟨T, hT⟩ : ∃ T, wc = T := ⟨_, rfl⟩
    rw [hT] at HBC ⊢
    clear hT
    have c0 := keep_cell HBC.out c0; have c1 := keep_cell HBC.out c1
    have HB := Lib.hid (belowT HBZ.out HBC.out)
    clear HBZ HBC
    go_wp2_with (first
      | (go_at_call 31; (with_reducible refine (HSX.out _).mono ?_); rintro en w8 ⟨rfl, hbz⟩; have c0 := keep_cell hbz c0; have c1 := keep_cell hbz c1; have Ac0 := fun o => keep_cell ((Below.refl _ _).alloc (Nat.le_refl _) o) c0; have Ac1 := fun o => keep_cell ((Below.refl _ _).alloc (Nat.le_refl _) o) c1; have HB := Lib.hid (belowT HB.out hbz); clear hbz)
      | (go_at_call 25; (with_reducible refine (HSAN.out _ (HT.out.below HB.out)).mono ?_); rintro en w9 ⟨rfl, hbz⟩; have c0 := keep_cell hbz c0; have c1 := keep_cell hbz c1; have Ac0 := fun o => keep_cell ((Below.refl _ _).alloc (Nat.le_refl _) o) c0; have Ac1 := fun o => keep_cell ((Below.refl _ _).alloc (Nat.le_refl _) o) c1; have HB := Lib.hid (belowT HB.out hbz); clear hbz))
    go_ret
    exact ⟨rfl, belowT HBEL.out HB.out⟩
end Go.Proofs.YtekbfommnmikbaaGreatDoor
