/- The law NumberMachine. -/
import Derived.Test.YtbjgpbdkofadiaaGreatDoorLawB
import Derived.Test.YtbjgpbdkofadiaaGreatDoorLawC
namespace Go.Proofs.YtbjgpbdkofadiaaGreatDoor
set_option linter.unusedVariables false
set_option linter.unusedSimpArgs false
open Go.RowKit Go.Shelf Go.Proofs

theorem tmod_bd (m : Int) : -2147483648 < m.tmod 2147483648 ∧ m.tmod 2147483648 < 2147483648 := by
  rcases Int.le_total 0 m with h | h
  · have h1 := Int.tmod_nonneg 2147483648 h
    have h2 := Int.tmod_lt_of_pos m (b := 2147483648) (by decide)
    omega
  · have h1 := tmod_np 2147483648 h
    have h2 : (m.tmod 2147483648).natAbs < 2147483648 := by rw [Int.natAbs_tmod]; exact Nat.mod_lt _ (by decide)
    omega
theorem mul_bd {M N : Int} (h1 : -2147483648 < M) (h2 : M < 2147483648) (h3 : -2147483648 < N) (h4 : N < 2147483648) : -4611686018427387904 ≤ M * N ∧ M * N ≤ 4611686018427387904 := by
  have h : (M * N).natAbs ≤ 2147483648 * 2147483648 := by rw [Int.natAbs_mul]; exact Nat.mul_le_mul (by omega) (by omega)
  omega
theorem tdiv_bd {M N : Int} (h1 : -2147483648 < M) (h2 : M < 2147483648) : -2147483648 < M.tdiv N ∧ M.tdiv N < 2147483648 := by
  have h : (M.tdiv N).natAbs ≤ M.natAbs := by rw [Int.natAbs_tdiv]; exact Nat.div_le_self _ _
  omega
theorem tmod_bd2 {M N : Int} (h1 : -2147483648 < M) (h2 : M < 2147483648) : -2147483648 < M.tmod N ∧ M.tmod N < 2147483648 := by
  have h : (M.tmod N).natAbs ≤ M.natAbs := by rw [Int.natAbs_tmod]; exact Nat.mod_le _ _
  omega
theorem fit_small {z : Int} (h0 : -9223372036854775808 ≤ z) (h1 : z ≤ 9223372036854775807) : z.natAbs < 10 ^ 200 := by
  have : (9223372036854775808 : Nat) < 10 ^ 200 := by decide
  omega

set_option maxRecDepth 100000 in
set_option maxHeartbeats 8000000 in
theorem machine_zero (hsan : San) (m n : Int) (w : World) (ht : Tabs w) (h0 : n.tmod 2147483648 = 0) :
    Calls Tryz.prog 15 #[.int .i64 m, .int .i64 n] w fun e w' => e = .returned (.bool true) ∧ Below w.heap.size w w' := by
  have HT := Lib.hid ht
  have HB : Hid (Below w.heap.size w w) := Below.refl _ _
  have HS : Hid (∀ w : World, Tabs w → Calls Tryz.prog 18 #[] w fun e w' => e = .returned (.bool true) ∧ Below w.heap.size w w') := hsan
  obtain ⟨M, hM⟩ : ∃ M, m.tmod 2147483648 = M := ⟨_, rfl⟩
  obtain ⟨m0, m1⟩ := tmod_bd m
  rw [hM] at m0 m1
  have HR := Lib.hid (show -9223372036854775808 ≤ M ∧ M ≤ 9223372036854775807 from by omega)
  obtain ⟨sa, hsa⟩ : ∃ s, txt (M) = s := ⟨_, rfl⟩
  have Ha : Hid (txt (M) = sa ∧ ern (M) = 0) := ⟨hsa, ern_fit (fit_small (by omega) (by omega))⟩
  have HNa : Hid (NumL sa.data.toList (M)) := num_of Ha.out.1 Ha.out.2 rfl
  clear hsa
  obtain ⟨sb, hsb⟩ : ∃ s, txt 0 = s := ⟨_, rfl⟩
  have Hb : Hid (txt 0 = sb ∧ ern 0 = 0) := ⟨hsb, ern_fit (by decide)⟩
  have HNb : Hid (NumL sb.data.toList 0) := num_of Hb.out.1 Hb.out.2 rfl
  have Hs : Hid (txt (M + 0) = sa ∧ ern (M + 0) = 0) := by show _ ∧ _; rw [Int.add_zero]; exact Ha.out
  have Hp : Hid (txt (M * 0) = sb ∧ ern (M * 0) = 0) := by show _ ∧ _; rw [Int.mul_zero]; exact Hb.out
  obtain ⟨g, hg⟩ : ∃ g, sgn (M + -0) = g := ⟨_, rfl⟩
  have HG := Lib.hid hg
  have hg1 : (decide (g < 0)) = decide (M < 0) := by rw [← hg, Bool.eq_iff_iff, decide_eq_true_iff, decide_eq_true_iff, sg_lt]; omega
  have hg2 : (decide (0 < g)) = decide (0 < M) := by rw [← hg, Bool.eq_iff_iff, decide_eq_true_iff, decide_eq_true_iff, sg_gt]; omega
  clear ht hsan hg hsb
  go_enter Tryz.func15, Tryz.ntmps15
  go_wp2_with (first
  | (go_at_call 50; (with_reducible refine (law_fromint M sa _ HR.out.1 HR.out.2 Ha.out.1 (HT.out.below HB.out)).mono ?_); rintro e W ⟨rfl, hbz⟩; have HB := Lib.hid (below_then' HB.out hbz); clear hbz)
  | (go_at_call 50; (with_reducible refine (law_fromint 0 sb _ (by decide) (by decide) Hb.out.1 (HT.out.below HB.out)).mono ?_); rintro e W ⟨rfl, hbz⟩; have HB := Lib.hid (below_then' HB.out hbz); clear hbz)
  | (go_at_call 42; (with_reducible refine (law_add sa sb M 0 sa _ _ HNa.out HNb.out Hs.out.1 Hs.out.2 (HT.out.below HB.out)).mono ?_); rintro e W ⟨rfl, hbz⟩; have HB := Lib.hid (below_then' HB.out hbz); clear hbz)
  | (go_at_call 19; (with_reducible refine (law_mul sa sb M 0 sb _ _ HNa.out HNb.out Hp.out.1 Hp.out.2 (HT.out.below HB.out)).mono ?_); rintro e W ⟨rfl, hbz⟩; have HB := Lib.hid (below_then' HB.out hbz); clear hbz)
  | (go_at_call 45; (with_reducible refine (law_cmp_at sa sb M 0 g _ HNa.out HNb.out HG.out (HT.out.below HB.out)).mono ?_); rintro e W ⟨rfl, hbz⟩; have HB := Lib.hid (below_then' HB.out hbz); clear hbz)
  | (go_at_call 51; (with_reducible refine (law_toint sa M _ HNa.out HR.out.1 HR.out.2 (HT.out.below HB.out)).mono ?_); rintro e W ⟨rfl, hbz⟩; have HB := Lib.hid (below_then' HB.out hbz); clear hbz)
  | (go_at_call 27; (with_reducible refine (law_quo_none sa sb M _ HNa.out HNb.out (HT.out.below HB.out)).mono ?_); rintro e W ⟨rfl, hbz⟩; have HB := Lib.hid (below_then' HB.out hbz); clear hbz)
  | (go_at_call 18; (with_reducible refine (HS.out _ (HT.out.below HB.out)).mono ?_); rintro e W ⟨rfl, hbz⟩; have HB := Lib.hid (below_then' HB.out hbz); clear hbz))
  all_goals
    go_ret
    exact ⟨rfl, HB.out⟩

set_option maxRecDepth 100000 in
set_option maxHeartbeats 8000000 in
theorem machine_ok (hsan : San) (m n : Int) (w : World) (ht : Tabs w) (h0 : n.tmod 2147483648 ≠ 0) :
    Calls Tryz.prog 15 #[.int .i64 m, .int .i64 n] w fun e w' => e = .returned (.bool true) ∧ Below w.heap.size w w' := by
  have HT := Lib.hid ht
  have HB : Hid (Below w.heap.size w w) := Below.refl _ _
  have HS : Hid (∀ w : World, Tabs w → Calls Tryz.prog 18 #[] w fun e w' => e = .returned (.bool true) ∧ Below w.heap.size w w') := hsan
  obtain ⟨M, hM⟩ : ∃ M, m.tmod 2147483648 = M := ⟨_, rfl⟩
  obtain ⟨N, hN⟩ : ∃ N, n.tmod 2147483648 = N := ⟨_, rfl⟩
  obtain ⟨m0, m1⟩ := tmod_bd m
  obtain ⟨n0, n1⟩ := tmod_bd n
  rw [hM] at m0 m1
  rw [hN] at n0 n1
  obtain ⟨p0, p1⟩ := mul_bd m0 m1 n0 n1
  obtain ⟨P, hP⟩ : ∃ P, M * N = P := ⟨_, rfl⟩
  have HP := Lib.hid hP
  rw [hP] at p0 p1
  have HR := Lib.hid (show (-9223372036854775808 ≤ M ∧ M ≤ 9223372036854775807) ∧ (-9223372036854775808 ≤ N ∧ N ≤ 9223372036854775807) ∧ (-9223372036854775808 ≤ M + N ∧ M + N ≤ 9223372036854775807) ∧ -9223372036854775808 ≤ P ∧ P ≤ 9223372036854775807 from by omega)
  obtain ⟨sa, hsa⟩ : ∃ s, txt (M) = s := ⟨_, rfl⟩
  have Ha : Hid (txt (M) = sa ∧ ern (M) = 0) := ⟨hsa, ern_fit (fit_small (by omega) (by omega))⟩
  have HNa : Hid (NumL sa.data.toList (M)) := num_of Ha.out.1 Ha.out.2 rfl
  clear hsa
  obtain ⟨sb, hsb⟩ : ∃ s, txt (N) = s := ⟨_, rfl⟩
  have Hb : Hid (txt (N) = sb ∧ ern (N) = 0) := ⟨hsb, ern_fit (fit_small (by omega) (by omega))⟩
  have HNb : Hid (NumL sb.data.toList (N)) := num_of Hb.out.1 Hb.out.2 rfl
  clear hsb
  obtain ⟨ss, hss⟩ : ∃ s, txt (M + N) = s := ⟨_, rfl⟩
  have Hs : Hid (txt (M + N) = ss ∧ ern (M + N) = 0) := ⟨hss, ern_fit (fit_small (by omega) (by omega))⟩
  have HNs : Hid (NumL ss.data.toList (M + N)) := num_of Hs.out.1 Hs.out.2 rfl
  clear hss
  obtain ⟨sp, hsp⟩ : ∃ s, txt (P) = s := ⟨_, rfl⟩
  have Hp : Hid (txt (P) = sp ∧ ern (P) = 0) := ⟨hsp, ern_fit (fit_small (by omega) (by omega))⟩
  have HNp : Hid (NumL sp.data.toList (P)) := num_of Hp.out.1 Hp.out.2 rfl
  clear hsp
  have Hp' : Hid (txt (M * N) = sp ∧ ern (M * N) = 0) := by show _ ∧ _; rw [HP.out]; exact Hp.out
  obtain ⟨g, hg⟩ : ∃ g, sgn (M + -N) = g := ⟨_, rfl⟩
  have HG := Lib.hid hg
  have hg1 : (decide (g < 0)) = decide (M < N) := by rw [← hg, Bool.eq_iff_iff, decide_eq_true_iff, decide_eq_true_iff, sg_lt]; omega
  have hg2 : (decide (0 < g)) = decide (N < M) := by rw [← hg, Bool.eq_iff_iff, decide_eq_true_iff, decide_eq_true_iff, sg_gt]; omega
  rw [hN] at h0
  have HN0 := Lib.hid h0
  have hn0 : (N == 0) = false := by simpa using h0
  obtain ⟨q0, q1⟩ := tdiv_bd (N := N) m0 m1
  obtain ⟨r0, r1⟩ := tmod_bd2 (N := N) m0 m1
  have HQR := Lib.hid (show (-9223372036854775808 ≤ M.tdiv N ∧ M.tdiv N ≤ 9223372036854775807) ∧ -9223372036854775808 ≤ M.tmod N ∧ M.tmod N ≤ 9223372036854775807 from by omega)
  obtain ⟨sq, hsq⟩ : ∃ s, txt (M.tdiv N) = s := ⟨_, rfl⟩
  have Hq : Hid (txt (M.tdiv N) = sq ∧ ern (M.tdiv N) = 0) := ⟨hsq, ern_fit (fit_small (by omega) (by omega))⟩
  have HNq : Hid (NumL sq.data.toList (M.tdiv N)) := num_of Hq.out.1 Hq.out.2 rfl
  clear hsq
  obtain ⟨sr, hsr⟩ : ∃ s, txt (M.tmod N) = s := ⟨_, rfl⟩
  have Hr : Hid (txt (M.tmod N) = sr ∧ ern (M.tmod N) = 0) := ⟨hsr, ern_fit (fit_small (by omega) (by omega))⟩
  have HNr : Hid (NumL sr.data.toList (M.tmod N)) := num_of Hr.out.1 Hr.out.2 rfl
  clear hsr
  clear ht hsan hg h0 hP
  have hP' := HP.out
  go_enter Tryz.func15, Tryz.ntmps15
  go_wp2_with (first
  | (go_at_call 50; (with_reducible refine (law_fromint M sa _ HR.out.1.1 HR.out.1.2 Ha.out.1 (HT.out.below HB.out)).mono ?_); rintro e W ⟨rfl, hbz⟩; have HB := Lib.hid (below_then' HB.out hbz); clear hbz)
  | (go_at_call 50; (with_reducible refine (law_fromint N sb _ HR.out.2.1.1 HR.out.2.1.2 Hb.out.1 (HT.out.below HB.out)).mono ?_); rintro e W ⟨rfl, hbz⟩; have HB := Lib.hid (below_then' HB.out hbz); clear hbz)
  | (go_at_call 42; (with_reducible refine (law_add sa sb M N ss _ _ HNa.out HNb.out Hs.out.1 Hs.out.2 (HT.out.below HB.out)).mono ?_); rintro e W ⟨rfl, hbz⟩; have HB := Lib.hid (below_then' HB.out hbz); clear hbz)
  | (go_at_call 19; (with_reducible refine (law_mul sa sb M N sp _ _ HNa.out HNb.out Hp'.out.1 Hp'.out.2 (HT.out.below HB.out)).mono ?_); rintro e W ⟨rfl, hbz⟩; have HB := Lib.hid (below_then' HB.out hbz); clear hbz)
  | (go_at_call 45; (with_reducible refine (law_cmp_at sa sb M N g _ HNa.out HNb.out HG.out (HT.out.below HB.out)).mono ?_); rintro e W ⟨rfl, hbz⟩; have HB := Lib.hid (below_then' HB.out hbz); clear hbz)
  | (go_at_call 51; (with_reducible refine (law_toint sa M _ HNa.out HR.out.1.1 HR.out.1.2 (HT.out.below HB.out)).mono ?_); rintro e W ⟨rfl, hbz⟩; have HB := Lib.hid (below_then' HB.out hbz); clear hbz)
  | (go_at_call 50; (with_reducible refine (law_fromint (M + N) ss _ HR.out.2.2.1.1 HR.out.2.2.1.2 Hs.out.1 (HT.out.below HB.out)).mono ?_); rintro e W ⟨rfl, hbz⟩; have HB := Lib.hid (below_then' HB.out hbz); clear hbz)
  | (go_at_call 50; (with_reducible refine (law_fromint P sp _ HR.out.2.2.2.1 HR.out.2.2.2.2 Hp.out.1 (HT.out.below HB.out)).mono ?_); rintro e W ⟨rfl, hbz⟩; have HB := Lib.hid (below_then' HB.out hbz); clear hbz)
  | (go_at_call 27; (with_reducible refine (law_quo sa sb M N sq sr _ HNa.out HNb.out HN0.out Hq.out.1 Hr.out.1 (HT.out.below HB.out)).mono ?_); rintro e W ⟨rfl, hbz⟩; have HB := Lib.hid (below_then' HB.out hbz); clear hbz)
  | (go_at_call 50; (with_reducible refine (law_fromint (M.tdiv N) sq _ HQR.out.1.1 HQR.out.1.2 Hq.out.1 (HT.out.below HB.out)).mono ?_); rintro e W ⟨rfl, hbz⟩; have HB := Lib.hid (below_then' HB.out hbz); clear hbz)
  | (go_at_call 50; (with_reducible refine (law_fromint (M.tmod N) sr _ HQR.out.2.1 HQR.out.2.2 Hr.out.1 (HT.out.below HB.out)).mono ?_); rintro e W ⟨rfl, hbz⟩; have HB := Lib.hid (below_then' HB.out hbz); clear hbz)
  | (go_at_call 18; (with_reducible refine (HS.out _ (HT.out.below HB.out)).mono ?_); rintro e W ⟨rfl, hbz⟩; have HB := Lib.hid (below_then' HB.out hbz); clear hbz))
  all_goals
    go_ret
    exact ⟨rfl, HB.out⟩

/-- The walk of NumberMachine. -/
theorem machine_walk (hsan : San) (m n : Int) (w : World) (ht : Tabs w) :
    Calls Tryz.prog 15 #[.int .i64 m, .int .i64 n] w fun e w' => e = .returned (.bool true) ∧ Below w.heap.size w w' := by
  by_cases h0 : n.tmod 2147483648 = 0
  · exact machine_zero hsan m n w ht h0
  · exact machine_ok hsan m n w ht h0

end Go.Proofs.YtbjgpbdkofadiaaGreatDoor
