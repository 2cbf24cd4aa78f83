/- Package real: Round. -/
import Derived.Test.YtekbfommnmikbaaGreatDoorRealX
namespace Go.Proofs.YtekbfommnmikbaaGreatDoor
set_option linter.unusedVariables false
set_option linter.unusedSimpArgs false
open Go.RowKit Go.Shelf Go.Proofs
attribute [local go_sem ↓] Go.wp_at_zero Go.wp_at_succ

theorem row_add {kd : IntKind} {w : World} {a : Addr} {l : List Int} (k : Nat) (h : Row kd w (some a) l) : Row kd w (some (a.add k)) (l.drop k) := by
  rcases Nat.eq_zero_or_pos k with rfl | hk
  · simpa [Addr.add] using h
  · have := row_drop hk h
    rwa [show a.add k = ⟨a.block, a.off + k, none⟩ from by unfold Addr.add; rw [if_neg (by omega)]]
theorem two_off {w : World} {B : Nat} (i j : Nat) (u v : Value) : ∀ g, g ≠ B → ((w.setCell ⟨B, i, none⟩ u).setCell ⟨B, j, none⟩ v).heap[g]? = w.heap[g]? := fun g hg => by
  rw [Below.heap_setCell _ _ _ _ hg, Below.heap_setCell _ _ _ _ hg]
/-- What Round returns. -/
def roundR (m e p : Int) : Value :=
  if ¬ RV m.natAbs e then .tuple #[.agg #[.int .i64 0, .int .i64 0], .int .i64 1]
  else if 1000 < p ∨ p < -1000 then .tuple #[.agg #[.int .i64 0, .int .i64 0], .int .i64 1]
  else if -p - e ≤ 0 then .tuple #[.agg #[.int .i64 m, .int .i64 e], .int .i64 0]
  else if (nd m.natAbs : Int) < -p - e then .tuple #[.agg #[.int .i64 0, .int .i64 0], .int .i64 0]
  else resR (decide (m < 0)) (rnd (rdiv m.natAbs (-p - e).toNat) (-p))

set_option maxRecDepth 100000 in
set_option maxHeartbeats 4000000 in
theorem roundR_c (m e p : Int) (w : World) (h0 : -9223372036854775808 ≤ m) (h1 : m ≤ 9223372036854775807) :
    Calls Tryz.prog 19 #[.agg #[.int .i64 m, .int .i64 e], .int .i64 p] w fun en w' => en = .returned (roundR m e p) ∧ Below w.heap.size w w' := by
  obtain ⟨W, hW, k0, k1, hbel, hsz⟩ := bx2h w #[.int .i64 m, .int .i64 e] #[.int .i64 0, .int .i64 0] 23 23
  have HBEL := Lib.hid hbel
  have FIN := fin2 k1 (by omega) hbel
  have BOX := box2 k1
  have c00 := cell_of_heap k0 0; have c01 := cell_of_heap k0 1
  simp at c00 c01
  have HV := Lib.hid (fun w' => validR_c m e w' h0 h1)
  clear k0 k1 hbel hsz
  by_cases h : RV m.natAbs e
  · rw [show decide (RV m.natAbs e) = true from decide_eq_true h] at HV
    have hnn : ¬ ¬ RV m.natAbs e := fun x => x h
    by_cases a : 1000 < p ∨ p < -1000
    · have hr : roundR m e p = .tuple #[.agg #[.int .i64 0, .int .i64 0], .int .i64 1] := by unfold roundR; rw [if_neg hnn, if_pos a]
      rw [hr]
      have hcase : 1000 < p ∨ (¬ 1000 < p ∧ p < -1000) := by omega
      clear hr hnn h a
      go_enter Tryz.func19, Tryz.ntmps19
      rcases hcase with a1 | ⟨a1, a2⟩
      all_goals
        go_wp2_with (go_at_call 33; (with_reducible refine (HV.out _).mono ?_); rintro en w2 ⟨rfl, hbz⟩; have c00 := keep_cell hbz c00; have c01 := keep_cell hbz c01; obtain ⟨b0, b1, b2, b3⟩ := BOX.out _ hbz; have HB := Lib.hid hbz; clear hbz)
        obtain ⟨r0, r1, hbb⟩ := FIN.out _ 0 0 HB.out
        refine bodyPost_ret (v := .tuple #[.agg #[.int .i64 0, .int .i64 0], .int .i64 1]) (by simp [results, Tryz.results19, go_sem, r0, r1]) rfl ?_
        exact ⟨rfl, hbb⟩
    have a1 : ¬ 1000 < p := by omega
    have a2 : ¬ p < -1000 := by omega
    obtain ⟨x0, x1, x2⟩ := RV_abs h
    have HAM := Lib.hid (fun w' => amountOf_c m e w' (by omega))
    obtain ⟨s, hs⟩ : ∃ s, decide (m < 0) = s := ⟨_, rfl⟩
    obtain ⟨ds, hds⟩ : ∃ ds, (dg 10 m.natAbs).reverse = ds := ⟨_, rfl⟩
    have hl := dgR_len h
    have hi := inR_dgR m.natAbs
    have hv := vd_dg m.natAbs
    have hn : ds.length = nd m.natAbs := by rw [← hds, List.length_reverse]; rfl
    rw [hs, hds] at HAM
    rw [hds] at hl hi hv
    have HI := Lib.hid hi
    obtain ⟨L, hL⟩ : ∃ L, ds.length = L := ⟨_, rfl⟩
    rw [hL] at hl hn
    have HL := Lib.hid hL
    obtain ⟨cut, hcut⟩ : ∃ cut, -p - e = cut := ⟨_, rfl⟩
    by_cases b : cut ≤ 0
    · have hr : roundR m e p = .tuple #[.agg #[.int .i64 m, .int .i64 e], .int .i64 0] := by unfold roundR; rw [if_neg hnn, if_neg a, hcut, if_pos b]
      rw [hr]
      clear hr hnn h hs hds hi hv hn a
      go_enter Tryz.func19, Tryz.ntmps19
      go_upto_region 5 with (first
        | (go_at_call 33; (with_reducible refine (HV.out _).mono ?_); rintro en w2 ⟨rfl, hbz⟩; have c00 := keep_cell hbz c00; have c01 := keep_cell hbz c01; have HB := Lib.hid hbz; clear hbz)
        | (go_at_call 87; (with_reducible refine (HAM.out _).mono ?_); rintro en w3 ⟨v, rfl, ⟨A9, c9, rfl, hc9, hm9, hr9⟩, hbz⟩; have c00 := keep_cell hbz c00; have c01 := keep_cell hbz c01; have HB := Lib.hid (belowT HB.out hbz); clear hbz hr9 hc9 hm9))
      obtain ⟨W4, hW4⟩ : ∃ W4, w3.alloc (.cells #[.bool s, .slice A9 L c9, .int .i64 e, .bool false] 95) = W4 := ⟨_, rfl⟩
      have hb4 : Below w3.heap.size w3 W4 := by rw [← hW4]; exact (Below.refl _ _).alloc (Nat.le_refl _) _
      rw [hW4]
      have c00 := keep_cell hb4 c00; have c01 := keep_cell hb4 c01
      have HB4 := Lib.hid (belowT HB.out hb4)
      obtain ⟨b0, b1, b2, b3⟩ := BOX.out _ HB4.out
      clear hW4 hb4
      go_wp2_with fail
      obtain ⟨r0, r1, hbb⟩ := FIN.out _ m e HB4.out
      refine bodyPost_ret (v := .tuple #[.agg #[.int .i64 m, .int .i64 e], .int .i64 0]) (by simp [results, Tryz.results19, go_sem, r0, r1]) rfl ?_
      exact ⟨rfl, hbb⟩
    obtain ⟨C, hC⟩ : ∃ C : Nat, cut = (C : Int) := ⟨cut.toNat, by omega⟩
    subst hC
    have hC0 : 0 < C := by omega
    clear b
    by_cases d : L < C
    · have hr : roundR m e p = .tuple #[.agg #[.int .i64 0, .int .i64 0], .int .i64 0] := by unfold roundR; rw [if_neg hnn, if_neg a, hcut, if_neg (by omega), if_pos (by omega)]
      rw [hr]
      clear hr hnn h hs hds hi hv hn a
      go_enter Tryz.func19, Tryz.ntmps19
      go_upto_region 5 with (first
        | (go_at_call 33; (with_reducible refine (HV.out _).mono ?_); rintro en w2 ⟨rfl, hbz⟩; have c00 := keep_cell hbz c00; have c01 := keep_cell hbz c01; have HB := Lib.hid hbz; clear hbz)
        | (go_at_call 87; (with_reducible refine (HAM.out _).mono ?_); rintro en w3 ⟨v, rfl, ⟨A9, c9, rfl, hc9, hm9, hr9⟩, hbz⟩; have c00 := keep_cell hbz c00; have c01 := keep_cell hbz c01; have HB := Lib.hid (belowT HB.out hbz); clear hbz hr9 hc9 hm9))
      obtain ⟨W4, hW4⟩ : ∃ W4, w3.alloc (.cells #[.bool s, .slice A9 L c9, .int .i64 e, .bool false] 95) = W4 := ⟨_, rfl⟩
      have hb4 : Below w3.heap.size w3 W4 := by rw [← hW4]; exact (Below.refl _ _).alloc (Nat.le_refl _) _
      have hq4 : W4.heap[w3.heap.size]? = some (.cells #[.bool s, .slice A9 L c9, .int .i64 e, .bool false] 95 (0, 0)) := by rw [← hW4]; exact heap_alloc_new _ _
      rw [hW4]
      have c00 := keep_cell hb4 c00; have c01 := keep_cell hb4 c01
      have a00 := cell_of_heap hq4 0; have a01 := cell_of_heap hq4 1; have a02 := cell_of_heap hq4 2; have a03 := cell_of_heap hq4 3
      simp at a00 a01 a02 a03
      have hB4 := belowT HB.out hb4
      obtain ⟨b0, b1, b2, b3⟩ := BOX.out _ hB4
      have HB4 := Lib.hid hB4
      clear hb4 hq4 hB4
      go_wp2_with fail
      obtain ⟨r0, r1, hbb⟩ := FIN.out _ 0 0 HB4.out
      refine bodyPost_ret (v := .tuple #[.agg #[.int .i64 0, .int .i64 0], .int .i64 0]) (by simp [results, Tryz.results19, go_sem, r0, r1]) rfl ?_
      exact ⟨rfl, hbb⟩
    have hL12 : L = 12 := by
      have h1 : 0 < m.natAbs := by
        rcases Nat.eq_zero_or_pos m.natAbs with e0 | e0
        · rw [e0, nd_zero] at hn; omega
        · exact e0
      have h2 : 100000000000 ≤ m.natAbs := by unfold RV at h; omega
      have h3 := nd_eq (n := m.natAbs) (k := 11) (by omega) (by omega)
      omega
    subst hL12
    obtain ⟨K, hK⟩ : ∃ K : Nat, K = 12 - C := ⟨_, rfl⟩
    have hKC : (12 : Int) - (C : Int) = (K : Int) := by omega
    have hK12 : K < 12 := by omega
    have hr : roundR m e p = resR s (rnd (rdiv m.natAbs C) (-p)) := by unfold roundR; rw [if_neg hnn, if_neg a, hcut, if_neg (by omega), if_neg (by omega), Int.toNat_natCast, hs]
    rw [hr]
    have hrd := rdiv_cut hi K (by omega)
    rw [hv, Int.toNat_natCast, hL, show 12 - K = C by omega] at hrd
    have HKC := Lib.hid hKC
    obtain ⟨a', b', c', hf⟩ := res_form s (rnd (rdiv m.natAbs C) (-p))
    rw [hf]
    have HF := Lib.hid hf
    have HRDV := Lib.hid hrd
    have hKl : (ds.take K).length = K := by rw [List.length_take]; omega
    have hKi := hi.take K
    have hKlt : vd (ds.take K) < 1000000000000 := by
      have h1 := vd_lt hKi
      rw [hKl] at h1
      have h2 : (10 : Int) ^ K ≤ 10 ^ 12 := pow_mono' (b := 10) (by decide) (by omega)
      have h3 : (10 : Int) ^ 12 = 1000000000000 := by decide
      omega
    clear hr hnn h hs hds hv hn a hrd hf
    go_enter Tryz.func19, Tryz.ntmps19
    go_upto_region 5 with (first
        | (go_at_call 33; (with_reducible refine (HV.out _).mono ?_); rintro en w2 ⟨rfl, hbz⟩; have c00 := keep_cell hbz c00; have c01 := keep_cell hbz c01; have HB := Lib.hid hbz; clear hbz)
        | (go_at_call 87; (with_reducible refine (HAM.out _).mono ?_); rintro en w3 ⟨v, rfl, ⟨A9, c9, rfl, hc9, hm9, hr9⟩, hbz⟩; have c00 := keep_cell hbz c00; have c01 := keep_cell hbz c01; have HB := Lib.hid (belowT HB.out hbz); clear hbz))
    obtain ⟨W4, hW4⟩ : ∃ W4, w3.alloc (.cells #[.bool s, .slice A9 12 c9, .int .i64 e, .bool false] 95) = W4 := ⟨_, rfl⟩
    have hb4 : Below w3.heap.size w3 W4 := by rw [← hW4]; exact (Below.refl _ _).alloc (Nat.le_refl _) _
    have hq4 : W4.heap[w3.heap.size]? = some (.cells #[.bool s, .slice A9 12 c9, .int .i64 e, .bool false] 95 (0, 0)) := by rw [← hW4]; exact heap_alloc_new _ _
    rw [hW4]
    have c00 := keep_cell hb4 c00; have c01 := keep_cell hb4 c01
    have a00 := cell_of_heap hq4 0; have a01 := cell_of_heap hq4 1; have a02 := cell_of_heap hq4 2; have a03 := cell_of_heap hq4 3
    simp at a00 a01 a02 a03
    have hB4 := belowT HB.out hb4
    have hB3z : W.heap.size ≤ w3.heap.size := HB.out.size
    have HB4 := Lib.hid hB4
    have HR9 := Lib.hid (hr9.below hb4)
    have HQ4 := Lib.hid hq4
    clear hb4 hq4 hB4 hr9
    go_upto_region 10 with fail
    rw [← hK]
    have HKE := Lib.hid hK
    obtain ⟨a9, rfl⟩ : ∃ a9, A9 = some a9 := by obtain ⟨a9, e9, -⟩ := HR9.out 0 (by rw [HL.out]; omega); exact ⟨a9, e9⟩
    have HKI := Lib.hid hKi; have HKL := Lib.hid hKl; have HKLT := Lib.hid hKlt
    clear hK hKi hKl hKlt
    go_wp2_with fail
    obtain ⟨nv, hnv⟩ : ∃ nv, nearV (ds.drop K) (vd (ds.take K)).toNat = nv := ⟨_, rfl⟩
    have hnv1 : nv ≤ 1 := by rw [← hnv]; exact near_le _ _
    have HNV := Lib.hid hnv
    clear hnv
    go_loopg [9, 52] K (fun g mv iv wr3 => ∃ (k : Nat) (m : Int), iv = .int .i64 (k : Int) ∧ k + g = K ∧ mv = .int .i64 m ∧ Hid (m = vd (ds.take k)) ∧ 0 ≤ m ∧ m ≤ 999999999999 ∧ wr3 = W4)
    case atStart => exact ⟨0, 0, rfl, Nat.zero_add _, rfl, by show _ = _; simp [vd], by omega, by omega, rfl⟩
    case round =>
      obtain ⟨k, m9, rfl, hk, rfl, HM, hm0, hm9', rfl⟩ := hrel
      have HK := Lib.hid hk
      by_cases hkK : k < K
      · have hkl : k < ds.length := by rw [HL.out]; omega
        obtain ⟨a8, e9, hcell⟩ := HR9.out k hkl
        cases e9
        have hin := HI.out.at_ (by decide) k
        rw [List.getD_eq_getElem?_getD] at hin
        have HT2 := Lib.hid (drop_take hkl)
        have hvl := vd_lt (HI.out.take (k + 1))
        have hvn := vd_nonneg (HI.out.take (k + 1))
        obtain ⟨x, hx⟩ : ∃ x, ds[k]?.getD 0 = x := ⟨_, rfl⟩
        rw [hx] at hcell hin HT2
        have hin9 : x < 10 := hin.2
        have hin0 := hin.1
        have HST : Hid (10 * m9 + x = vd (ds.take (k + 1))) := by show _ = _; rw [HT2.out, vd_snoc, HM.out]
        have hlim : vd (ds.take (k + 1)) < 1000000000000 := by
          rw [List.length_take, HL.out, show min (k + 1) 12 = k + 1 by omega] at hvl
          have hpw := pow_mono' (b := 10) (i := k + 1) (j := 12) (by decide) (by omega)
          simp only [Int.cast_ofNat_Int] at hpw
          have hpe : (10 : Int) ^ 12 = 1000000000000 := by decide
          omega
        have hb1 : 10 * m9 + x ≤ 999999999999 := by rw [HST.out]; omega
        have hb2 : 0 ≤ 10 * m9 + x := by rw [HST.out]; omega
        have hwr : IntKind.i64.wrap x = x := IntWalk.i64_in _ (by omega)
        clear hx hin hvl hvn hlim hk
        go_wp2_with fail
        go_roundg (gk - 1)
        case measure => have := HK.out; omega
        case rel => exact ⟨k + 1, 10 * m9 + x, by go_num, by have := HK.out; omega, rfl, HST.out, hb2, hb1, rfl⟩
      · obtain rfl : k = K := by omega
        obtain ⟨q, rfl⟩ : ∃ q : Nat, m9 = (q : Int) := ⟨m9.toNat, by omega⟩
        have HQ : Hid ((vd (ds.take k)).toNat = q) := by show _ = _; rw [← HM.out]; rfl
        have HQM : Hid (q + nv = rdiv m.natAbs C) := by have := HRDV.out; rw [HNV.out, HQ.out] at this; exact this
        clear hk hkK
        obtain ⟨V, hV⟩ : ∃ V, q + nv = V := ⟨_, rfl⟩
        have hqv : (q : Int) + (nv : Int) = (V : Int) := by omega
        have hV18 : V < 10 ^ 18 := by omega
        have hVe : rdiv m.natAbs C = V := by rw [← hV]; exact HQM.out.symm
        have HN1 : Hid (∀ w', Row .u8 w' (some a9) ds → Calls Tryz.prog 90 #[.slice (some (a9.add k)) (12 - k) (c9 - k), .int .i64 (q : Int)] w' fun e w2 => e = .returned (.int .i64 (nv : Int)) ∧ w' = w2) := fun w' hr => by
          have h1 := near_c (some (a9.add k)) (c9 - k) (ds.drop k) q w' (row_add k hr) (by rw [List.length_drop, HL.out]; omega) (by omega) (HI.out.drop k) (by omega)
          have h2 : nearV (ds.drop k) q = nv := by have := HNV.out; rw [HQ.out] at this; exact this
          rw [h2, List.length_drop, HL.out] at h1
          exact h1
        have HDG := Lib.hid (fun w' => digitsOf_c V w' hV18)
        obtain ⟨dv, hdv⟩ : ∃ dv, (dg 10 V).reverse = dv := ⟨_, rfl⟩
        have hdi := inR_dgR V
        have hdd := vd_dg V
        have hdl : dv.length ≤ 18 := by rw [← hdv, List.length_reverse]; exact (dg_length_le (by decide) V 18).2 hV18
        rw [hdv] at HDG hdi hdd
        have HRD := Lib.hid (fun A c w' (hr : Row .u8 w' A dv) hc hm => rounded_c s A c dv (-p) false w' hr hc hm hdi (by omega) (by omega) (by omega))
        rw [show withMore dv false = dv from rfl, show expMore (-p) false = -p from rfl, hdd, Int.toNat_natCast, ← hVe, HF.out] at HRD
        clear hV hVe hV18 hdv hdi hdd HQM
        go_wp2_with (first
          | (go_at_call 90; (with_reducible refine (HN1.out _ HR9.out).mono ?_); rintro en w5 ⟨rfl, rfl⟩)
          | (go_at_call 89; (with_reducible refine (HDG.out _).mono ?_); rintro en w5 ⟨v, rfl, ⟨A5, c5, rfl, hc5, hm5, hr5⟩, hf5, hbz⟩; have HR5 := Lib.hid hr5; have HC5 := Lib.hid hc5; have HM5 := Lib.hid hm5; have HB5 := Lib.hid (belowT HB4.out hbz); have q4 := heapB hbz HQ4.out; have q0 := cell_of_heap q4 0; have q1 := cell_of_heap q4 1; have q2 := cell_of_heap q4 2; have q3 := cell_of_heap q4 3; have y1 := free_of_heap q4 1; have y2 := free_of_heap q4 2; have HQ5 := Lib.hid q4; simp at q0 q1 q2 q3; clear hbz hr5 hf5 hc5 hm5 q4)
          | (go_at_call 88; (with_reducible refine (HRD.out A5 c5 _ (row_off HR5.out HQ5.out amt_cells (two_off _ _ _ _)) HC5.out HM5.out).mono ?_); rintro en w6 ⟨rfl, hbz⟩; have HB6 := Lib.hid (belowT ((HB5.out.setCell (p := ⟨w3.heap.size, 1, none⟩) (by exact hB3z) _).setCell (p := ⟨w3.heap.size, 2, none⟩) (by exact hB3z) _) hbz); obtain ⟨b0, b1, b2, b3⟩ := BOX.out _ HB6.out; clear hbz))
        obtain ⟨r0, r1, hbb⟩ := FIN.out _ a' b' HB6.out
        refine bodyPost_ret (v := .tuple #[.agg #[.int .i64 a', .int .i64 b'], .int .i64 c']) (by simp [results, Tryz.results19, go_sem, r0, r1]) rfl ?_
        exact ⟨rfl, hbb⟩
  · rw [show decide (RV m.natAbs e) = false from decide_eq_false h] at HV
    have hr : roundR m e p = .tuple #[.agg #[.int .i64 0, .int .i64 0], .int .i64 1] := by unfold roundR; rw [if_pos h]
    rw [hr]
    clear hr h
    go_enter Tryz.func19, Tryz.ntmps19
    go_wp2_with (go_at_call 33; (with_reducible refine (HV.out _).mono ?_); rintro en w2 ⟨rfl, hbz⟩; have c00 := keep_cell hbz c00; have c01 := keep_cell hbz c01; obtain ⟨b0, b1, b2, b3⟩ := BOX.out _ hbz; have HB := Lib.hid hbz; clear hbz)
    obtain ⟨r0, r1, hbb⟩ := FIN.out _ 0 0 HB.out
    refine bodyPost_ret (v := .tuple #[.agg #[.int .i64 0, .int .i64 0], .int .i64 1]) (by simp [results, Tryz.results19, go_sem, r0, r1]) rfl ?_
    exact ⟨rfl, hbb⟩
end Go.Proofs.YtekbfommnmikbaaGreatDoor
