/- Texts of this claim, merged: SpE, SpG, ScalesL, RootM. -/
import Derived.Test.YtekbfommnmikbaaGreatDoorP9
/- The reference of layer 2: Round. -/
namespace Go.Proofs.YtekbfommnmikbaaGreatDoor
set_option linter.unusedVariables false
set_option linter.unusedSimpArgs false
open Go.RowKit Go.Shelf Go.Proofs
attribute [local go_sem ↓] Go.wp_at_zero Go.wp_at_succ

theorem hC_pos (N : Nat) : 0 < hC (dg 10 N) ↔ 10 ^ nd N < 2 * N := by
  unfold hC
  rw [val_dg (by decide)]
  have e : ((10 ^ nd N : Nat) : Int) = 10 ^ (dg 10 N).length := by rw [Int.natCast_pow]; rfl
  rw [← e]
  unfold sgn
  constructor
  · intro h
    by_cases h1 : (2 * (N : Int) - ((10 ^ nd N : Nat) : Int)) < 0
    · rw [if_pos h1] at h; omega
    · rw [if_neg h1] at h
      by_cases h2 : 0 < (2 * (N : Int) - ((10 ^ nd N : Nat) : Int))
      · omega
      · rw [if_neg h2] at h; omega
  · intro h
    rw [if_neg (by omega), if_pos (by omega)]; decide
/-- Rounding by what half says. -/
theorem hC_up {ys : List Int} (hi : InR 10 ys) {j : Nat} (hj : j ≤ ys.length) {Y : Nat} (hY : val 10 ys = (Y : Int)) :
    ∃ q : Nat, val 10 (ys.drop j) = (q : Int) ∧ q = Y / 10 ^ j ∧ (if 0 < hC (ys.take j) ∨ (hC (ys.take j) = 0 ∧ q % 2 = 1) then q + 1 else q) = rdiv Y j := by
  have h1 := val_take_drop 10 ys j hj
  have h2 := val_lt (hi.take j)
  have h3 := val_nonneg (hi.take j)
  have h4 := val_nonneg (hi.drop j)
  have hl : (ys.take j).length = j := by rw [List.length_take]; omega
  obtain ⟨q, hq⟩ := Int.eq_ofNat_of_zero_le h4
  obtain ⟨r, hr⟩ := Int.eq_ofNat_of_zero_le h3
  have hp : 0 < 10 ^ j := Nat.pow_pos (by decide)
  rw [hl, hr] at h2
  rw [hY, hr, hq] at h1
  have h1' : Y = r + 10 ^ j * q := by
    have : (Y : Int) = ((r + 10 ^ j * q : Nat) : Int) := by rw [h1, Int.natCast_add, Int.natCast_mul, Int.natCast_pow]
    exact Int.ofNat_inj.1 this
  have h2' : r < 10 ^ j := by
    have : ((r : Nat) : Int) < ((10 ^ j : Nat) : Int) := by rw [Int.natCast_pow]; exact h2
    exact Int.ofNat_lt.1 this
  have eq1 : Y / 10 ^ j = q := by rw [h1', Nat.add_mul_div_left _ _ hp, Nat.div_eq_of_lt h2', Nat.zero_add]
  have eq2 : Y % 10 ^ j = r := by rw [h1', Nat.add_mul_mod_self_left, Nat.mod_eq_of_lt h2']
  refine ⟨q, hq, eq1.symm, ?_⟩
  have hh : hC (ys.take j) = sgn (2 * (r : Int) - ((10 ^ j : Nat) : Int)) := by
    unfold hC; rw [hl, hr, Int.natCast_pow]; rfl
  unfold rdiv halfUp
  rw [eq1, eq2, hh]
  generalize 10 ^ j = p at *
  unfold sgn
  by_cases a : 2 * (r : Int) - (p : Int) < 0
  · rw [if_pos a, if_neg (by omega), if_neg (by omega)]; rfl
  · by_cases b : 0 < 2 * (r : Int) - (p : Int)
    · rw [if_neg a, if_pos b, if_pos (.inl (by decide)), if_pos (.inl (by omega))]
    · rw [if_neg a, if_neg b]
      by_cases c : q % 2 = 1
      · rw [if_pos (.inr ⟨rfl, c⟩), if_pos (.inr ⟨by omega, c⟩)]
      · rw [if_neg (by omega), if_neg (by omega)]; rfl

set_option maxRecDepth 100000 in
set_option maxHeartbeats 8000000 in
theorem sround_c (v : Value) (z e : Int) (w : World) (h : Dc w v z e) (hl : (dg 10 z.natAbs).length ≤ 1000000) (he0 : -1000000000 ≤ e) (he1 : e ≤ 1000000000) :
    Calls Tryz.prog 50 #[v] w fun en w' => en = .returned (rdV (rndS z e)) ∧ Below w.heap.size w w' := by
  obtain ⟨A, L, c, b, rfl, hri⟩ := h
  obtain ⟨hL, hb⟩ := ri_parts hri
  obtain ⟨p, hp, hdg⟩ := hri
  obtain ⟨A', c', he', hlc, hcm, hrow⟩ := hdg
  cases hp
  cases he'
  obtain ⟨N, hN⟩ : ∃ N, z.natAbs = N := ⟨_, rfl⟩
  unfold rndS
  rw [hN] at hl hrow hlc ⊢
  obtain ⟨s, hs⟩ : ∃ s, decide (z < 0) = s := ⟨_, rfl⟩
  rw [hs]
  clear hL hb hN hs z
  obtain ⟨W, hW, k0, k1, hbel, hsz⟩ := bx2h w #[.slice A (dg 10 N).length c, .bool s, .int .i64 e] #[.int .i64 0, .int .i64 0, .bool false] 60 30
  obtain ⟨c0, c1, c2⟩ := three_cells k0
  have BOX := box3 k1
  have FIN := fin3 k1 (by omega) hbel
  obtain ⟨d0, d1, d2, g0, g1, g2⟩ := BOX.out W (Below.refl _ _)
  have HBEL := Lib.hid hbel
  have HROW := Lib.hid (hrow.below hbel)
  have HIN := Lib.hid (dg_inR (b := 10) (by decide) N)
  have HV := Lib.hid (val_dg (b := 10) (by decide) N)
  have HSZ := Lib.hid hsz
  clear k0 k1 hbel hrow hsz
  by_cases hN0 : N = 0
  · subst hN0
    rw [dg_zero] at hW c0 ⊢
    simp only [List.length_nil] at hW c0 ⊢
    have hr : rdV (sgo s (rnd 0 e)) = .agg #[.int .i64 0, .int .i64 0, .bool true] := by rw [rnd_zero]; cases s <;> rfl
    rw [hr]
    clear hr hl hlc
    go_enter Tryz.func50, Tryz.ntmps50
    go_wp2_with fail
    obtain ⟨r0, r1, r2, hbb⟩ := FIN.out W (.int .i64 0) (.int .i64 0) (.bool true) (Below.refl _ _)
    refine bodyPost_ret (v := .agg #[.int .i64 0, .int .i64 0, .bool true]) (by simp [results, Tryz.results50, go_sem, r0, r1, r2]) rfl ?_
    exact ⟨rfl, hbb⟩
  have hnd0 := nd_pos (show 0 < N by omega)
  have HCP := Lib.hid (hC_pos N)
  have hrdef : rnd N e = if (nd N : Int) + e < -100 then some (0, 0) else if (nd N : Int) + e = -100 then (if 10 ^ nd N < 2 * N then some (100000000000, -111) else some (0, 0)) else fit (man12 N) ((nd N : Int) - 12 + e) := by
    unfold rnd
    by_cases a : (nd N : Int) + e < -100
    · rw [if_pos (.inr a), if_pos a]
    · rw [if_neg (by omega), if_neg a]
  rw [hrdef]
  clear hrdef
  have hmr := man12_rng (show 0 < N by omega)
  have hm12 : man12 N = if nd N < 12 then N * 10 ^ (12 - nd N) else rdiv N (nd N - 12) := rfl
  have HLT := Lib.hid (lt_nd N)
  obtain ⟨L, hL⟩ : ∃ L, nd N = L := ⟨_, rfl⟩
  have hL' : (dg 10 N).length = L := hL
  rw [hL] at hnd0 hm12 HLT HCP ⊢
  rw [hL'] at hl hlc c0 hW ⊢
  have HLL := Lib.hid hL'
  have hL0 : ((L : Int) == 0) = false := by rw [beq_eq_false_iff_ne]; omega
  clear hL hL'
  by_cases a : (L : Int) + e < -100
  · rw [if_pos a]
    have hr : rdV (sgo s (some (0, 0))) = .agg #[.int .i64 0, .int .i64 0, .bool true] := by cases s <;> rfl
    rw [hr]
    clear hr hm12 hmr hN0
    go_enter Tryz.func50, Tryz.ntmps50
    go_wp2_with fail
    obtain ⟨r0, r1, r2, hbb⟩ := FIN.out W (.int .i64 0) (.int .i64 0) (.bool true) (Below.refl _ _)
    refine bodyPost_ret (v := .agg #[.int .i64 0, .int .i64 0, .bool true]) (by simp [results, Tryz.results50, go_sem, r0, r1, r2]) rfl ?_
    exact ⟨rfl, hbb⟩
  rw [if_neg a]
  by_cases a2 : (L : Int) + e = -100
  · rw [if_pos a2]
    have HH := Lib.hid (fun w' (hb : Below W.heap.size W w') => half_c A c (dg 10 N) w' (HROW.out.below hb) HIN.out (by rw [HLL.out]; exact hl))
    rw [HLL.out] at HH
    obtain ⟨k, hk⟩ : ∃ k, hC (dg 10 N) = k := ⟨_, rfl⟩
    rw [hk] at HH HCP
    have a2b : ((L : Int) + e == -100) = true := by rw [beq_iff_eq]; exact a2
    have a3 : ¬ (L : Int) + e < -100 := a
    by_cases hk0 : 0 < k
    · rw [if_pos (HCP.out.1 hk0)]
      show Calls Tryz.prog 50 _ w fun en w' => en = .returned (.agg #[.int .i64 (sgm s 100000000000), .int .i64 (-111), .bool true]) ∧ Below w.heap.size w w'
      have HSG : Hid (∀ w' : World, Calls Tryz.prog 123 #[.bool s, .agg #[.int .i64 100000000000, .int .i64 (-111)]] w' fun en w2 => en = .returned (.agg #[.int .i64 (sgm s 100000000000), .int .i64 (-111), .bool true]) ∧ Below w'.heap.size w' w2) := fun w' => signed_c s 100000000000 (-111) w' (by decide)
      clear hm12 hmr hN0 hk a2 a
      go_enter Tryz.func50, Tryz.ntmps50
      go_wp2_with (first
        | (go_at_call 91; (with_reducible refine (HH.out _ (Below.refl _ _)).mono ?_); rintro en w' ⟨rfl, rfl⟩)
        | (go_at_call 123; (with_reducible refine (HSG.out _).mono ?_); rintro en w3 ⟨rfl, hbz⟩; have HB := Lib.hid hbz; obtain ⟨d0, d1, d2, g0, g1, g2⟩ := BOX.out _ hbz; clear hbz))
      obtain ⟨r0, r1, r2, hbb⟩ := FIN.out _ (.int .i64 (sgm s 100000000000)) (.int .i64 (-111)) (.bool true) HB.out
      refine bodyPost_ret (v := .agg #[.int .i64 (sgm s 100000000000), .int .i64 (-111), .bool true]) (by simp [results, Tryz.results50, go_sem, r0, r1, r2]) rfl ?_
      exact ⟨rfl, hbb⟩
    · rw [if_neg (fun x => hk0 (HCP.out.2 x))]
      have hr : rdV (sgo s (some (0, 0))) = .agg #[.int .i64 0, .int .i64 0, .bool true] := by cases s <;> rfl
      rw [hr]
      clear hr hm12 hmr hN0 hk a2 a
      go_enter Tryz.func50, Tryz.ntmps50
      go_wp2_with (go_at_call 91; (with_reducible refine (HH.out _ (Below.refl _ _)).mono ?_); rintro en w' ⟨rfl, rfl⟩)
      obtain ⟨r0, r1, r2, hbb⟩ := FIN.out W (.int .i64 0) (.int .i64 0) (.bool true) (Below.refl _ _)
      refine bodyPost_ret (v := .agg #[.int .i64 0, .int .i64 0, .bool true]) (by simp [results, Tryz.results50, go_sem, r0, r1, r2]) rfl ?_
      exact ⟨rfl, hbb⟩
  rw [if_neg a2]
  have a2b : ((L : Int) + e == -100) = false := by rw [beq_eq_false_iff_ne]; exact a2
  obtain ⟨M, hM⟩ : ∃ M, man12 N = M := ⟨_, rfl⟩
  rw [hM] at hm12 hmr ⊢
  have HM := Lib.hid hm12
  clear hm12 hM a2
  go_enter Tryz.func50, Tryz.ntmps50
  go_upto_if 39 with fail
  go_cut [3] from 38 to 44 (fun v3 wx => ∃ (A3 : Option Addr) (n3 c3 : Nat) (ys : List Int), v3 = .slice A3 n3 c3 ∧ 12 ≤ n3 ∧ n3 ≤ c3 ∧ c3 ≤ 9223372036854775807 ∧ n3 ≤ 1000000 ∧ Hid (ys.length = n3 ∧ Row .i64 wx A3 ys ∧ InR 10 ys ∧ ∃ Y : Nat, val 10 ys = (Y : Int) ∧ rdiv Y (n3 - 12) = M) ∧ Hid (Below W.heap.size W wx))
  case first =>
    by_cases h12 : L < 12
    · obtain ⟨k, hk⟩ : ∃ k, k + L = 12 := ⟨12 - L, by omega⟩
      have hmk := make_nat k (12 - (L : Int)) (by omega) (by omega)
      have h12i : (L : Int) < 12 := by omega
      have HK := Lib.hid hk
      clear hk
      go_wp2_with (at_builtin; refine append_nat _ rfl _ _ rfl W.heap.size _ k (List.replicate k 0) rfl (own_zeros W k (by have := HK.out; omega)) A c (dg 10 N) (by rw [HLL.out]; rfl) (HROW.out.alloc _) (by rw [HLL.out]; have := HK.out; omega) (by simp) ?_; intro v' w' hown hgrow; obtain ⟨A3, c3, e3, q1, q2, q3, q4⟩ := own_row hown; subst e3; have HG := Lib.hid hgrow; have HQ3 := Lib.hid q3; have HQ := Lib.hid (And.intro q1 (And.intro q2 q4)); clear hown hgrow q1 q2 q3 q4)
      go_meet
      have hlen : (List.replicate k (0 : Int) ++ dg 10 N).length = 12 := by rw [List.length_append, List.length_replicate, HLL.out, HK.out]
      refine ⟨A3, 12, c3, List.replicate k 0 ++ dg 10 N, by rw [HLL.out, HK.out], by omega, by have := HQ.out.1; rw [hlen] at this; exact this, by have := HQ.out.2.1; unfold maxLen at this; omega, by omega, ⟨hlen, HQ3.out, (InR.replicate (by decide) _).append HIN.out, N * 10 ^ k, ?_, ?_⟩, ?_⟩
      · rw [val_append, val_replicate, HV.out, List.length_replicate, Int.natCast_mul, Int.natCast_pow, Int.zero_add, Int.mul_comm]
      · rw [show 12 - 12 = 0 from rfl, rdiv_zero, HM.out, if_pos h12, show 12 - L = k by have := HK.out; omega]
      · exact ((Below.refl _ _).alloc (Nat.le_refl _) _).grown HG.out (by simp) (fun g hg => by cases hg; exact Nat.le_refl _)
    · have h12i : ¬ (L : Int) < 12 := by omega
      go_wp2_with fail
      go_meet
      exact ⟨A, L, c, dg 10 N, rfl, by omega, hlc, hcm, hl, ⟨HLL.out, HROW.out, HIN.out, N, HV.out, by rw [HM.out, if_neg h12]⟩, Below.refl _ _⟩
  case rest =>
    obtain ⟨A3, n3, c3, ys, rfl, h12, hnc, hcm3, hn3, HYS, HB⟩ := hcut
    obtain ⟨T, hT⟩ : ∃ T, wc = T := ⟨_, rfl⟩
    rw [hT] at HYS HB ⊢
    clear hT
    have c0 := keep_cell HB.out c0; have c1 := keep_cell HB.out c1; have c2 := keep_cell HB.out c2
    obtain ⟨hyl, hyr, hyi, Y, hyv, hyM⟩ := HYS.out
    obtain ⟨j, rfl⟩ : ∃ j, n3 = j + 12 := ⟨n3 - 12, by omega⟩
    obtain ⟨a3, rfl, -⟩ := hyr 0 (by omega)
    obtain ⟨q, hq, hqd, hup⟩ := hC_up hyi (j := j) (by omega) hyv
    rw [show j + 12 - 12 = j by omega] at hyM
    rw [hyM] at hup
    have hjt : (ys.take j).length = j := by rw [List.length_take]; omega
    have hjd : (ys.drop j).length = 12 := by rw [List.length_drop]; omega
    have hdi := hyi.drop j
    have hti := hyi.take j
    have hrd : Row .i64 T (some (a3.add j)) (ys.drop j) := row_add j hyr
    have hrt : Row .i64 T (some a3) (ys.take j) := fun i hi => by
      obtain ⟨a', e, hc⟩ := hyr i (by rw [hjt] at hi; omega)
      refine ⟨a', e, ?_⟩
      rw [hc, List.getElem?_take, if_pos (by rw [hjt] at hi; exact hi)]
    have HNUM : Hid (Calls Tryz.prog 92 #[.slice (some (a3.add j)) 12 (c3 - j)] T fun e w' => e = .returned (.int .i64 (q : Int)) ∧ T = w') := by
      have := number_c (some (a3.add j)) (c3 - j) (ys.drop j) T hrd hdi (by omega)
      rw [hjd, hq] at this
      exact this
    obtain ⟨k, hk⟩ : ∃ k, hC (ys.take j) = k := ⟨_, rfl⟩
    have HHALF : Hid (Calls Tryz.prog 91 #[.slice (some a3) j c3] T fun e w' => e = .returned (.int .i64 k) ∧ T = w') := by
      have := half_c (some a3) c3 (ys.take j) T hrt hti (by omega)
      rw [hjt, hk] at this
      exact this
    rw [hk] at hup
    have hqlt : q < 1000000000000 := by
      have := val_lt hdi
      rw [hjd, hq] at this
      have h9 : (q : Int) < 10 ^ 12 := this
      have : (10 : Int) ^ 12 = 1000000000000 := by decide
      omega
    have HUP := Lib.hid hup
    have HQD := Lib.hid hqd
    clear hup hq hqd hyl hyr hyi hyv hyM hjt hjd hdi hti hrd hrt hk
    go_upto_region 14 with (first
      | (go_at_call 92; (with_reducible refine HNUM.out.mono ?_); rintro en w' ⟨rfl, rfl⟩)
      | (go_at_call 91; (with_reducible refine HHALF.out.mono ?_); rintro en w' ⟨rfl, rfl⟩))
    obtain ⟨B, hB⟩ : ∃ B : Bool, (B = true ↔ (0 < k ∨ (k = 0 ∧ q % 2 = 1))) := ⟨decide (0 < k ∨ (k = 0 ∧ q % 2 = 1)), by simp⟩
    have HBB := Lib.hid hB
    clear hB
    go_cut [66] from 56 to 66 (fun v wx => v = .bool B ∧ wx = T)
    case first =>
      by_cases hk0 : 0 < k
      · obtain rfl : B = true := HBB.out.2 (.inl hk0)
        go_wp2_with fail
        go_meet
        exact ⟨rfl, rfl⟩
      · by_cases hkz : k = 0
        · subst hkz
          by_cases hq2 : q % 2 = 1
          · obtain rfl : B = true := HBB.out.2 (.inr ⟨rfl, hq2⟩)
            have hqb : ((q : Int) % 2 == 1) = true := by rw [beq_iff_eq]; omega
            clear hq2 hk0
            go_wp2_with fail
            go_meet
            exact ⟨rfl, rfl⟩
          · obtain rfl : B = false := by
              cases B
              · rfl
              · have := HBB.out.1 rfl; omega
            have hqb : ((q : Int) % 2 == 1) = false := by rw [beq_eq_false_iff_ne]; omega
            clear hq2 hk0
            go_wp2_with fail
            go_meet
            exact ⟨rfl, rfl⟩
        · obtain rfl : B = false := by
            cases B
            · rfl
            · have := HBB.out.1 rfl; omega
          have hkb : (k == 0) = false := by rw [beq_eq_false_iff_ne]; exact hkz
          clear hkz
          go_wp2_with fail
          go_meet
          exact ⟨rfl, rfl⟩
    case rest =>
      obtain ⟨rfl, hT⟩ := hcut
      rw [hT]
      clear hT
      cases B
      · have hM : M = q := by
          have := HUP.out
          rw [if_neg (fun x => by have := HBB.out.2 x; cases this)] at this
          exact this.symm
        subst hM
        by_cases hMM : M = 1000000000000
        · have hx1 : ((M : Int) == 1000000000000) = true := by rw [beq_iff_eq]; omega
          by_cases hX : 88 < (L : Int) - 12 + e + 1
          · have HFIT : Hid (rdV (sgo s (fit M ((L : Int) - 12 + e))) = .agg #[.int .i64 0, .int .i64 0, .bool false]) := by show _ = _; unfold fit; rw [if_pos hMM, if_pos hX]; rfl
            obtain ⟨d0, d1, d2, g0, g1, g2⟩ := BOX.out _ HB.out
            clear hMM
            go_wp2_with fail
            obtain ⟨r0, r1, r2, hbb⟩ := FIN.out _ (.int .i64 0) (.int .i64 0) (.bool false) HB.out
            refine bodyPost_ret (v := .agg #[.int .i64 0, .int .i64 0, .bool false]) (by simp [results, Tryz.results50, go_sem, r0, r1, r2]) rfl ?_
            exact ⟨by rw [HFIT.out], hbb⟩
          · have HFIT : Hid (rdV (sgo s (fit M ((L : Int) - 12 + e))) = .agg #[.int .i64 (sgm s 100000000000), .int .i64 ((L : Int) - 12 + e + 1), .bool true]) := by show _ = _; unfold fit; rw [if_pos hMM, if_neg hX]; rfl
            have HSG : Hid (∀ w' : World, Calls Tryz.prog 123 #[.bool s, .agg #[.int .i64 100000000000, .int .i64 ((L : Int) - 12 + e + 1)]] w' fun en w2 => en = .returned (.agg #[.int .i64 (sgm s 100000000000), .int .i64 ((L : Int) - 12 + e + 1), .bool true]) ∧ Below w'.heap.size w' w2) := fun w' => signed_c s 100000000000 ((L : Int) - 12 + e + 1) w' (by decide)
            clear hMM
            go_wp2_with (go_at_call 123; (with_reducible refine (HSG.out _).mono ?_); rintro en w3 ⟨rfl, hbz⟩; have HB3 := Lib.hid (belowT HB.out hbz); obtain ⟨d0, d1, d2, g0, g1, g2⟩ := BOX.out _ HB3.out; clear hbz)
            obtain ⟨r0, r1, r2, hbb⟩ := FIN.out _ (.int .i64 (sgm s 100000000000)) (.int .i64 ((L : Int) - 12 + e + 1)) (.bool true) HB3.out
            refine bodyPost_ret (v := .agg #[.int .i64 (sgm s 100000000000), .int .i64 ((L : Int) - 12 + e + 1), .bool true]) (by simp [results, Tryz.results50, go_sem, r0, r1, r2]) rfl ?_
            exact ⟨by rw [HFIT.out], hbb⟩
        · have hx1 : ((M : Int) == 1000000000000) = false := by rw [beq_eq_false_iff_ne]; omega
          by_cases hX : 88 < (L : Int) - 12 + e
          · have HFIT : Hid (rdV (sgo s (fit M ((L : Int) - 12 + e))) = .agg #[.int .i64 0, .int .i64 0, .bool false]) := by show _ = _; unfold fit; rw [if_neg hMM, if_pos hX]; rfl
            obtain ⟨d0, d1, d2, g0, g1, g2⟩ := BOX.out _ HB.out
            clear hMM
            go_wp2_with fail
            obtain ⟨r0, r1, r2, hbb⟩ := FIN.out _ (.int .i64 0) (.int .i64 0) (.bool false) HB.out
            refine bodyPost_ret (v := .agg #[.int .i64 0, .int .i64 0, .bool false]) (by simp [results, Tryz.results50, go_sem, r0, r1, r2]) rfl ?_
            exact ⟨by rw [HFIT.out], hbb⟩
          · have HFIT : Hid (rdV (sgo s (fit M ((L : Int) - 12 + e))) = .agg #[.int .i64 (sgm s M), .int .i64 ((L : Int) - 12 + e), .bool true]) := by show _ = _; unfold fit; rw [if_neg hMM, if_neg hX]; rfl
            have HSG := Lib.hid (fun w' => signed_c s M ((L : Int) - 12 + e) w' (by omega))
            clear hMM
            go_wp2_with (go_at_call 123; (with_reducible refine (HSG.out _).mono ?_); rintro en w3 ⟨rfl, hbz⟩; have HB3 := Lib.hid (belowT HB.out hbz); obtain ⟨d0, d1, d2, g0, g1, g2⟩ := BOX.out _ HB3.out; clear hbz)
            obtain ⟨r0, r1, r2, hbb⟩ := FIN.out _ (.int .i64 (sgm s M)) (.int .i64 ((L : Int) - 12 + e)) (.bool true) HB3.out
            refine bodyPost_ret (v := .agg #[.int .i64 (sgm s M), .int .i64 ((L : Int) - 12 + e), .bool true]) (by simp [results, Tryz.results50, go_sem, r0, r1, r2]) rfl ?_
            exact ⟨by rw [HFIT.out], hbb⟩
      · have hM : M = q + 1 := by
          have := HUP.out
          rw [if_pos (HBB.out.1 rfl)] at this
          exact this.symm
        subst hM
        by_cases hMM : q + 1 = 1000000000000
        · have hx1 : ((q : Int) + 1 == 1000000000000) = true := by rw [beq_iff_eq]; omega
          by_cases hX : 88 < (L : Int) - 12 + e + 1
          · have HFIT : Hid (rdV (sgo s (fit (q + 1) ((L : Int) - 12 + e))) = .agg #[.int .i64 0, .int .i64 0, .bool false]) := by show _ = _; unfold fit; rw [if_pos hMM, if_pos hX]; rfl
            obtain ⟨d0, d1, d2, g0, g1, g2⟩ := BOX.out _ HB.out
            clear hMM
            go_wp2_with fail
            obtain ⟨r0, r1, r2, hbb⟩ := FIN.out _ (.int .i64 0) (.int .i64 0) (.bool false) HB.out
            refine bodyPost_ret (v := .agg #[.int .i64 0, .int .i64 0, .bool false]) (by simp [results, Tryz.results50, go_sem, r0, r1, r2]) rfl ?_
            exact ⟨by rw [HFIT.out], hbb⟩
          · have HFIT : Hid (rdV (sgo s (fit (q + 1) ((L : Int) - 12 + e))) = .agg #[.int .i64 (sgm s 100000000000), .int .i64 ((L : Int) - 12 + e + 1), .bool true]) := by show _ = _; unfold fit; rw [if_pos hMM, if_neg hX]; rfl
            have HSG : Hid (∀ w' : World, Calls Tryz.prog 123 #[.bool s, .agg #[.int .i64 100000000000, .int .i64 ((L : Int) - 12 + e + 1)]] w' fun en w2 => en = .returned (.agg #[.int .i64 (sgm s 100000000000), .int .i64 ((L : Int) - 12 + e + 1), .bool true]) ∧ Below w'.heap.size w' w2) := fun w' => signed_c s 100000000000 ((L : Int) - 12 + e + 1) w' (by decide)
            clear hMM
            go_wp2_with (go_at_call 123; (with_reducible refine (HSG.out _).mono ?_); rintro en w3 ⟨rfl, hbz⟩; have HB3 := Lib.hid (belowT HB.out hbz); obtain ⟨d0, d1, d2, g0, g1, g2⟩ := BOX.out _ HB3.out; clear hbz)
            obtain ⟨r0, r1, r2, hbb⟩ := FIN.out _ (.int .i64 (sgm s 100000000000)) (.int .i64 ((L : Int) - 12 + e + 1)) (.bool true) HB3.out
            refine bodyPost_ret (v := .agg #[.int .i64 (sgm s 100000000000), .int .i64 ((L : Int) - 12 + e + 1), .bool true]) (by simp [results, Tryz.results50, go_sem, r0, r1, r2]) rfl ?_
            exact ⟨by rw [HFIT.out], hbb⟩
        · have hx1 : ((q : Int) + 1 == 1000000000000) = false := by rw [beq_eq_false_iff_ne]; omega
          by_cases hX : 88 < (L : Int) - 12 + e
          · have HFIT : Hid (rdV (sgo s (fit (q + 1) ((L : Int) - 12 + e))) = .agg #[.int .i64 0, .int .i64 0, .bool false]) := by show _ = _; unfold fit; rw [if_neg hMM, if_pos hX]; rfl
            obtain ⟨d0, d1, d2, g0, g1, g2⟩ := BOX.out _ HB.out
            clear hMM
            go_wp2_with fail
            obtain ⟨r0, r1, r2, hbb⟩ := FIN.out _ (.int .i64 0) (.int .i64 0) (.bool false) HB.out
            refine bodyPost_ret (v := .agg #[.int .i64 0, .int .i64 0, .bool false]) (by simp [results, Tryz.results50, go_sem, r0, r1, r2]) rfl ?_
            exact ⟨by rw [HFIT.out], hbb⟩
          · have HFIT : Hid (rdV (sgo s (fit (q + 1) ((L : Int) - 12 + e))) = .agg #[.int .i64 (sgm s ((q : Int) + 1)), .int .i64 ((L : Int) - 12 + e), .bool true]) := by show _ = _; unfold fit; rw [if_neg hMM, if_neg hX]; rfl
            have HSG := Lib.hid (fun w' => signed_c s (q + 1) ((L : Int) - 12 + e) w' (by omega))
            rw [Int.natCast_add, show ((1 : Nat) : Int) = 1 from rfl] at HSG
            clear hMM
            go_wp2_with (go_at_call 123; (with_reducible refine (HSG.out _).mono ?_); rintro en w3 ⟨rfl, hbz⟩; have HB3 := Lib.hid (belowT HB.out hbz); obtain ⟨d0, d1, d2, g0, g1, g2⟩ := BOX.out _ HB3.out; clear hbz)
            obtain ⟨r0, r1, r2, hbb⟩ := FIN.out _ (.int .i64 (sgm s ((q : Int) + 1))) (.int .i64 ((L : Int) - 12 + e)) (.bool true) HB3.out
            refine bodyPost_ret (v := .agg #[.int .i64 (sgm s ((q : Int) + 1)), .int .i64 ((L : Int) - 12 + e), .bool true]) (by simp [results, Tryz.results50, go_sem, r0, r1, r2]) rfl ?_
            exact ⟨by rw [HFIT.out], hbb⟩
end Go.Proofs.YtekbfommnmikbaaGreatDoor
/- The reference of layer 2: Scale, Places. -/
namespace Go.Proofs.YtekbfommnmikbaaGreatDoor
set_option linter.unusedVariables false
set_option linter.unusedSimpArgs false
open Go.RowKit Go.Shelf Go.Proofs
attribute [local go_sem ↓] Go.wp_at_zero Go.wp_at_succ

theorem rdV_form (o : Option (Int × Int)) : ∃ a b k, rdV o = .agg #[.int .i64 a, .int .i64 b, .bool k] := by
  rcases o with _ | ⟨a, b⟩
  · exact ⟨0, 0, false, rfl⟩
  · exact ⟨a, b, true, rfl⟩

set_option maxRecDepth 100000 in
set_option maxHeartbeats 4000000 in
theorem sscale_c (m e n : Int) (w : World) (h : RV m.natAbs e) (n0 : -10000 ≤ n) (n1 : n ≤ 10000) :
    Calls Tryz.prog 24 #[.agg #[.int .i64 m, .int .i64 e], .int .i64 n] w fun en w' => en = .returned (rdV (rndS m (e + n))) ∧ Below w.heap.size w w' := by
  obtain ⟨W, hW, k0, k1, hbel, hsz⟩ := bx2h w #[.int .i64 m, .int .i64 e] #[.int .i64 0, .int .i64 0, .bool false] 23 30
  obtain ⟨c0, c1⟩ := two_cells k0
  have BOX := box3 k1
  have FIN := fin3 k1 (by omega) hbel
  have HBEL := Lib.hid hbel
  obtain ⟨x0, x1, x2⟩ := RV_abs h
  have hl : (dg 10 m.natAbs).length ≤ 1000000 := by
    have := dgR_len h; rw [List.length_reverse] at this; omega
  have HOF := Lib.hid (fun w' => sof_c m e w' (by omega) (by omega))
  have HRN := Lib.hid (fun v w' h => sround_c v m (e + n) w' h hl (by omega) (by omega))
  obtain ⟨a, b, k, hf⟩ := rdV_form (rndS m (e + n))
  rw [hf] at HRN ⊢
  clear k0 k1 hbel hsz h x0 hl hf
  go_enter Tryz.func24, Tryz.ntmps24
  go_wp2_with (first
    | (go_at_call 45; (with_reducible refine (HOF.out _).mono ?_); rintro en w2 ⟨v, rfl, ⟨A9, n9, c9, b9, rfl, hr9⟩, hbz⟩; have HR9 := Lib.hid hr9; have HB := Lib.hid hbz; clear hbz hr9)
    | (go_at_call 50; refine (HRN.out _ _ ⟨A9, n9, c9, b9, rfl, HR9.out.below ((Below.refl _ _).alloc (Nat.le_refl _) _)⟩).mono ?_; rintro en w3 ⟨rfl, hbz⟩; have HB3 := Lib.hid (belowT (belowA HB.out _) hbz); obtain ⟨d0, d1, d2, g0, g1, g2⟩ := BOX.out _ HB3.out; clear hbz))
  obtain ⟨r0, r1, r2, hbb⟩ := FIN.out _ (.int .i64 a) (.int .i64 b) (.bool k) HB3.out
  refine bodyPost_ret (v := .agg #[.int .i64 a, .int .i64 b, .bool k]) (by simp [results, Tryz.results24, go_sem, r0, r1, r2]) rfl ?_
  exact ⟨rfl, hbb⟩

/-- The digits of a number, with another sign. -/
theorem ri_sign {w : World} {A : Option Addr} {n c : Nat} {b s : Bool} {z x : Int} (h : Ri w (.agg #[.slice A n c, .bool b]) z) (hx : x.natAbs = z.natAbs) (hs : s = decide (x < 0)) : Ri w (.agg #[.slice A n c, .bool s]) x := by
  obtain ⟨p, e, hd⟩ := h
  cases e
  exact ⟨_, by rw [hs], by rw [hx]; exact hd⟩
/-- What Places returns. -/
def placesS (m e p : Int) : Option (Int × Int) :=
  if m = 0 ∨ 0 ≤ e + p then some (m, e)
  else if (12 : Int) < -p - e then some (0, 0)
  else rndS (if m < 0 then -(rdiv m.natAbs (-p - e).toNat : Int) else (rdiv m.natAbs (-p - e).toNat : Int)) (-p)

set_option maxRecDepth 100000 in
set_option maxHeartbeats 8000000 in
theorem splaces_c (m e p : Int) (w : World) (h : RV m.natAbs e) (n0 : -1000 ≤ p) (n1 : p ≤ 1000) :
    Calls Tryz.prog 27 #[.agg #[.int .i64 m, .int .i64 e], .int .i64 p] w fun en w' => en = .returned (rdV (placesS m e p)) ∧ Below w.heap.size w w' := by
  obtain ⟨W, hW, k0, k1, hbel, hsz⟩ := bx2h w #[.int .i64 m, .int .i64 e] #[.int .i64 0, .int .i64 0, .bool false] 23 30
  obtain ⟨c0, c1⟩ := two_cells k0
  have BOX := box3 k1
  have FIN := fin3 k1 (by omega) hbel
  have HBEL := Lib.hid hbel
  obtain ⟨x0, x1, x2⟩ := RV_abs h
  have HOF := Lib.hid (fun w' => sof_c m e w' (by omega) (by omega))
  have hlen : (dg 10 m.natAbs).length = if m = 0 then 0 else 12 := by
    by_cases h0 : m = 0
    · subst h0; rw [if_pos rfl, Int.natAbs_zero, dg_zero]; rfl
    · rw [if_neg h0]
      rcases RV_nd h with h1 | h1
      · have := nd_pos (show 0 < m.natAbs by omega); omega
      · exact h1
  have HLEN := Lib.hid hlen
  unfold placesS
  clear k0 k1 hbel hsz hlen
  by_cases h0 : m = 0
  · rw [if_pos (.inl h0)]
    subst h0
    rw [if_pos rfl] at HLEN
    clear h x0
    go_enter Tryz.func27, Tryz.ntmps27
    go_wp2_with (go_at_call 45; (with_reducible refine (HOF.out _).mono ?_); rintro en w2 ⟨v, rfl, ⟨A9, n9, c9, b9, rfl, hr9⟩, hbz⟩; have hn9 := (ri_parts hr9).1; rw [HLEN.out] at hn9; subst hn9; have c0 := keep_cell (belowT hbz ((Below.refl _ _).alloc (Nat.le_refl _) (.cells #[.slice A9 0 c9, .bool b9, .int .i64 e] 60))) c0; have c1 := keep_cell (belowT hbz ((Below.refl _ _).alloc (Nat.le_refl _) (.cells #[.slice A9 0 c9, .bool b9, .int .i64 e] 60))) c1; have HB3 := Lib.hid (belowT hbz ((Below.refl _ _).alloc (Nat.le_refl _) (.cells #[.slice A9 0 c9, .bool b9, .int .i64 e] 60))); obtain ⟨d0, d1, d2, g0, g1, g2⟩ := BOX.out _ HB3.out; clear hbz hr9)
    obtain ⟨r0, r1, r2, hbb⟩ := FIN.out _ (.int .i64 0) (.int .i64 e) (.bool true) HB3.out
    refine bodyPost_ret (v := .agg #[.int .i64 0, .int .i64 e, .bool true]) (by simp [results, Tryz.results27, go_sem, r0, r1, r2]) rfl ?_
    exact ⟨rfl, hbb⟩
  rw [if_neg h0] at HLEN
  by_cases a : 0 ≤ e + p
  · rw [if_pos (.inr a)]
    clear h x0
    go_enter Tryz.func27, Tryz.ntmps27
    go_wp2_with (go_at_call 45; (with_reducible refine (HOF.out _).mono ?_); rintro en w2 ⟨v, rfl, ⟨A9, n9, c9, b9, rfl, hr9⟩, hbz⟩; have hn9 := (ri_parts hr9).1; rw [HLEN.out] at hn9; subst hn9; have c0 := keep_cell (belowT hbz ((Below.refl _ _).alloc (Nat.le_refl _) (.cells #[.slice A9 12 c9, .bool b9, .int .i64 e] 60))) c0; have c1 := keep_cell (belowT hbz ((Below.refl _ _).alloc (Nat.le_refl _) (.cells #[.slice A9 12 c9, .bool b9, .int .i64 e] 60))) c1; have HB3 := Lib.hid (belowT hbz ((Below.refl _ _).alloc (Nat.le_refl _) (.cells #[.slice A9 12 c9, .bool b9, .int .i64 e] 60))); obtain ⟨d0, d1, d2, g0, g1, g2⟩ := BOX.out _ HB3.out; clear hbz hr9)
    obtain ⟨r0, r1, r2, hbb⟩ := FIN.out _ (.int .i64 m) (.int .i64 e) (.bool true) HB3.out
    refine bodyPost_ret (v := .agg #[.int .i64 m, .int .i64 e, .bool true]) (by simp [results, Tryz.results27, go_sem, r0, r1, r2]) rfl ?_
    exact ⟨rfl, hbb⟩
  rw [if_neg (by omega)]
  obtain ⟨k, hk⟩ : ∃ k : Nat, -p - e = (k : Int) := ⟨(-p - e).toNat, by omega⟩
  have hk' : -e - p = (k : Int) := by omega
  rw [hk]
  by_cases a2 : (12 : Int) < (k : Int)
  · rw [if_pos a2]
    clear h x0
    go_enter Tryz.func27, Tryz.ntmps27
    go_wp2_with (go_at_call 45; (with_reducible refine (HOF.out _).mono ?_); rintro en w2 ⟨v, rfl, ⟨A9, n9, c9, b9, rfl, hr9⟩, hbz⟩; have hn9 := (ri_parts hr9).1; rw [HLEN.out] at hn9; subst hn9; have HB3 := Lib.hid (belowT hbz ((Below.refl _ _).alloc (Nat.le_refl _) (.cells #[.slice A9 12 c9, .bool b9, .int .i64 e] 60))); obtain ⟨d0, d1, d2, g0, g1, g2⟩ := BOX.out _ HB3.out; clear hbz hr9)
    obtain ⟨r0, r1, r2, hbb⟩ := FIN.out _ (.int .i64 0) (.int .i64 0) (.bool true) HB3.out
    refine bodyPost_ret (v := .agg #[.int .i64 0, .int .i64 0, .bool true]) (by simp [results, Tryz.results27, go_sem, r0, r1, r2]) rfl ?_
    exact ⟨rfl, hbb⟩
  rw [if_neg a2, Int.toNat_natCast]
  have hk12 : k ≤ 12 := by omega
  go_enter Tryz.func27, Tryz.ntmps27
  go_upto_region 8 with (go_at_call 45; (with_reducible refine (HOF.out _).mono ?_); rintro en w2 ⟨v, rfl, ⟨A9, n9, c9, b9, rfl, hr9⟩, hbz⟩; have hn9 := (ri_parts hr9).1; rw [HLEN.out] at hn9; subst hn9; have HR9 := Lib.hid hr9; have HB2 := Lib.hid hbz; clear hbz hr9)
  -- MARK
  obtain ⟨N, hN⟩ : ∃ N, m.natAbs = N := ⟨_, rfl⟩
  obtain ⟨U, hU⟩ : ∃ U, w2.alloc (.cells #[.slice A9 12 c9, .bool b9, .int .i64 e] 60) = U := ⟨_, rfl⟩
  have hUb : Below w2.heap.size w2 U := by rw [← hU]; exact (Below.refl _ _).alloc (Nat.le_refl _) _
  have hUh : U.heap[w2.heap.size]? = some (.cells #[.slice A9 12 c9, .bool b9, .int .i64 e] 60 (0, 0)) := by rw [← hU]; exact heap_alloc_new _ _
  rw [hU]
  obtain ⟨e0, e1, e2⟩ := three_cells hUh
  obtain ⟨pp, hpp, A', c', he', hlc, hcm, hrow⟩ := HR9.out
  have hlen' : (dg 10 m.natAbs).length = 12 := HLEN.out
  rw [hlen'] at he' hlc
  have hb9 : b9 = decide (m < 0) := (ri_parts HR9.out).2
  have hp9 : pp = .slice A9 12 c9 := by
    injection hpp with h1
    injection h1 with h2
    injection h2 with h3 _
    exact h3.symm
  rw [hp9] at he'
  cases he'
  rw [hN] at hrow hlen'
  have hrow := hrow.below hUb
  have hin := dg_inR (b := 10) (by decide) N
  have hvl := val_dg (b := 10) (by decide) N
  obtain ⟨xs, hxs⟩ : ∃ xs, dg 10 N = xs := ⟨_, rfl⟩
  rw [hxs] at hrow hlen' hin hvl
  obtain ⟨a9, rfl, -⟩ := hrow 0 (by omega)
  obtain ⟨q, hq, hqd, hup⟩ := hC_up hin (j := k) (by omega) hvl
  have hjt : (xs.take k).length = k := by rw [List.length_take]; omega
  have hjd : (xs.drop k).length = 12 - k := by rw [List.length_drop]; omega
  have hrt : Row .i64 U (some a9) (xs.take k) := fun i hi => by
    obtain ⟨a', e, hc⟩ := hrow i (by rw [hjt] at hi; omega)
    refine ⟨a', e, ?_⟩
    rw [hc, List.getElem?_take, if_pos (by rw [hjt] at hi; exact hi)]
  obtain ⟨hh, hhh⟩ : ∃ hh, hC (xs.take k) = hh := ⟨_, rfl⟩
  have HHALF : Hid (Calls Tryz.prog 91 #[.slice (some a9) k c9] U fun e w' => e = .returned (.int .i64 hh) ∧ U = w') := by
    have := half_c (some a9) c9 (xs.take k) U hrt (hin.take k) (by omega)
    rw [hjt, hhh] at this
    exact this
  rw [hhh] at hup
  have hNlt : N < 1000000000000 := by omega
  have hqlt : q < 1000000000000 := by rw [hqd]; exact Nat.lt_of_le_of_lt (Nat.div_le_self _ _) hNlt
  have HNUM : Hid (∀ (A : Option Addr) (c : Nat), Row .i64 U A (xs.drop k) → Calls Tryz.prog 92 #[.slice A (12 - k) c] U fun e w' => e = .returned (.int .i64 (q : Int)) ∧ U = w') := fun A c hr => by
    have := number_c A c (xs.drop k) U hr (hin.drop k) (by omega)
    rw [hjd, hq] at this
    exact this
  have HROW := Lib.hid hrow
  obtain ⟨M0, hM0⟩ : ∃ M0, rdiv N k = M0 := ⟨_, rfl⟩
  rw [hM0] at hup
  have HRV : Hid (rdiv m.natAbs k = M0) := by show _ = _; rw [hN, hM0]
  have HUP := Lib.hid hup
  have HXL := Lib.hid hlen'
  have HB9 := Lib.hid hb9
  have HB4 : Hid (Below W.heap.size W U) := belowT HB2.out hUb
  have hc12 : 12 ≤ c9 := hlc
  clear hUb hUh hpp hp9 hlc hrow hin hvl hxs hqd hup hq hjt hjd hrt hhh hM0 hlen' hb9 hU HR9 h x0 hN
  go_upto_region 9 with (go_at_call 91; (with_reducible refine HHALF.out.mono ?_); rintro en w' ⟨rfl, rfl⟩)
  go_cut [9] from 44 to 47 (fun v9 wx => v9 = .int .i64 (q : Int) ∧ wx = U)
  case first =>
    by_cases hk : k < 12
    · have hkc : k < c9 := by omega
      have HN2 := Lib.hid (HNUM.out (some (a9.add k)) (c9 - k) (row_add k HROW.out))
      go_wp2_with (go_at_call 92; (with_reducible refine HN2.out.mono ?_); rintro en w' ⟨rfl, rfl⟩)
      go_meet
      exact ⟨rfl, rfl⟩
    · obtain rfl : k = 12 := by omega
      have hnil : xs.drop 12 = [] := List.drop_eq_nil_of_le (by have := HXL.out; omega)
      have HN2 : Hid (∀ (A : Option Addr) (c : Nat), Calls Tryz.prog 92 #[.slice A 0 c] U fun e w' => e = .returned (.int .i64 (q : Int)) ∧ U = w') := fun A c => HNUM.out A c (by rw [hnil]; exact Row.nil)
      clear hnil
      by_cases hc9 : c9 = 12
      · subst hc9
        go_wp2_with (go_at_call 92; (with_reducible refine (HN2.out _ _).mono ?_); rintro en w' ⟨rfl, rfl⟩)
        go_meet
        exact ⟨rfl, rfl⟩
      · have hkc : 12 < c9 := by omega
        go_wp2_with (go_at_call 92; (with_reducible refine (HN2.out _ _).mono ?_); rintro en w' ⟨rfl, rfl⟩)
        go_meet
        exact ⟨rfl, rfl⟩
  case rest =>
    obtain ⟨rfl, hT⟩ := hcut
    rw [hT]
    clear hT
    go_upto_region 10 with fail
    obtain ⟨B, hB⟩ : ∃ B : Bool, (B = true ↔ (0 < hh ∨ (hh = 0 ∧ q % 2 = 1))) := ⟨decide (0 < hh ∨ (hh = 0 ∧ q % 2 = 1)), by simp⟩
    have HBB := Lib.hid hB
    clear hB
    go_cut [58] from 48 to 58 (fun v wx => v = .bool B ∧ wx = U)
    case first =>
      by_cases hk0 : 0 < hh
      · obtain rfl : B = true := HBB.out.2 (.inl hk0)
        go_wp2_with fail
        go_meet
        exact ⟨rfl, rfl⟩
      · by_cases hkz : hh = 0
        · subst hkz
          by_cases hq2 : q % 2 = 1
          · obtain rfl : B = true := HBB.out.2 (.inr ⟨rfl, hq2⟩)
            have hqb : ((q : Int) % 2 == 1) = true := by rw [beq_iff_eq]; omega
            clear hq2 hk0
            go_wp2_with fail
            go_meet
            exact ⟨rfl, rfl⟩
          · obtain rfl : B = false := by
              cases B
              · rfl
              · have := HBB.out.1 rfl; omega
            have hqb : ((q : Int) % 2 == 1) = false := by rw [beq_eq_false_iff_ne]; omega
            clear hq2 hk0
            go_wp2_with fail
            go_meet
            exact ⟨rfl, rfl⟩
        · obtain rfl : B = false := by
            cases B
            · rfl
            · have := HBB.out.1 rfl; omega
          have hkb : (hh == 0) = false := by rw [beq_eq_false_iff_ne]; exact hkz
          clear hkz
          go_wp2_with fail
          go_meet
          exact ⟨rfl, rfl⟩
    case rest =>
      obtain ⟨rfl, hT⟩ := hcut
      rw [hT]
      clear hT
      cases B
      · have hM : M0 = q := by
          have := HUP.out
          rw [if_neg (fun x => by have := HBB.out.2 x; cases this)] at this
          exact this.symm
        subst hM
        by_cases hm : m < 0
        · obtain rfl : b9 = true := by rw [HB9.out]; exact decide_eq_true hm
          by_cases hz : 0 < M0
          · have hzi : (0 : Int) < (M0 : Int) := by omega
            have hzd : decide ((0 : Int) < (M0 : Int)) = true := decide_eq_true hzi
            have HZ : Hid (-((M0 : Nat) : Int) = -(M0 : Int)) := by show _ = _; omega
            obtain ⟨aa, bb, kk, hf⟩ := rdV_form (rndS (-(M0 : Int)) (-p))
            have HRN := Lib.hid (fun v w' h => sround_c v (-(M0 : Int)) (-p) w' h (by have := (dg_length_le (b := 10) (by decide) (M0) 13).2 (by omega); rw [show (-(M0 : Int) : Int).natAbs = M0 by omega]; omega) (by omega) (by omega))
            rw [hf] at HRN
            have HF := Lib.hid hf
            clear hf
            have HFI := Lib.hid (fun w' => rfromint_c ((M0 : Int)) w' (by omega) (by omega))
            have HOF2 := Lib.hid (fun w' => rof_c _ ((M0 : Int)) w' (numL_int (by omega) (by omega)))
            go_wp2_with (first
              | (go_at_call 94; (with_reducible refine (HFI.out _).mono ?_); rintro en w5 ⟨rfl, hbz⟩; have e0 := keep_cell hbz e0; have e1 := keep_cell hbz e1; have e2 := keep_cell hbz e2; have HB5 := Lib.hid (belowT HB4.out hbz); clear hbz)
              | (go_at_call 93; (with_reducible refine (HOF2.out _).mono ?_); rintro en w6 ⟨v6, rfl, hv6, hbz⟩; obtain ⟨A6, n6, c6, b6, rfl⟩ := hv6.form; have e0 := keep_cell (belowT hbz ((Below.refl _ _).alloc (Nat.le_refl _) (.cells #[.slice A6 n6 c6, .bool b6] 58))) e0; have e1 := keep_cell (belowT hbz ((Below.refl _ _).alloc (Nat.le_refl _) (.cells #[.slice A6 n6 c6, .bool b6] 58))) e1; have e2 := keep_cell (belowT hbz ((Below.refl _ _).alloc (Nat.le_refl _) (.cells #[.slice A6 n6 c6, .bool b6] 58))) e2; have HB6 := Lib.hid (belowT HB5.out hbz); have HV6 := Lib.hid hv6; clear hbz hv6)
              | (go_at_call 50; refine (HRN.out _ _ ⟨A6, n6, c6, true, rfl, ri_sign (HV6.out.below ((Below.refl _ _).alloc (Nat.le_refl _) _)) (by omega) (by first | rfl | (simp; omega) | simp)⟩).mono ?_; rintro en w7 ⟨rfl, hbz⟩; have HB7 := Lib.hid (belowT (belowA HB6.out _) hbz); obtain ⟨d0, d1, d2, g0, g1, g2⟩ := BOX.out _ HB7.out; clear hbz))
            obtain ⟨r0, r1, r2, hbb⟩ := FIN.out _ (.int .i64 aa) (.int .i64 bb) (.bool kk) HB7.out
            refine bodyPost_ret (v := .agg #[.int .i64 aa, .int .i64 bb, .bool kk]) (by simp [results, Tryz.results27, go_sem, r0, r1, r2]) rfl ?_
            exact ⟨by first | rw [HRV.out, HF.out] | rw [HRV.out, HZ.out, HF.out], hbb⟩
          · obtain rfl : M0 = 0 := by omega
            have HZ : Hid (-((0 : Nat) : Int) = 0) := by show _ = _; rfl
            obtain ⟨aa, bb, kk, hf⟩ := rdV_form (rndS (0) (-p))
            have HRN := Lib.hid (fun v w' h => sround_c v (0) (-p) w' h (by have := (dg_length_le (b := 10) (by decide) (0) 13).2 (by omega); rw [show (0 : Int).natAbs = 0 by omega]; omega) (by omega) (by omega))
            rw [hf] at HRN
            have HF := Lib.hid hf
            clear hf
            have HFI := Lib.hid (fun w' => rfromint_c (0) w' (by omega) (by omega))
            have HOF2 := Lib.hid (fun w' => rof_c _ (0) w' (numL_int (by omega) (by omega)))
            go_wp2_with (first
              | (go_at_call 94; (with_reducible refine (HFI.out _).mono ?_); rintro en w5 ⟨rfl, hbz⟩; have e0 := keep_cell hbz e0; have e1 := keep_cell hbz e1; have e2 := keep_cell hbz e2; have HB5 := Lib.hid (belowT HB4.out hbz); clear hbz)
              | (go_at_call 93; (with_reducible refine (HOF2.out _).mono ?_); rintro en w6 ⟨v6, rfl, hv6, hbz⟩; obtain ⟨A6, n6, c6, b6, rfl⟩ := hv6.form; have e0 := keep_cell (belowT hbz ((Below.refl _ _).alloc (Nat.le_refl _) (.cells #[.slice A6 n6 c6, .bool b6] 58))) e0; have e1 := keep_cell (belowT hbz ((Below.refl _ _).alloc (Nat.le_refl _) (.cells #[.slice A6 n6 c6, .bool b6] 58))) e1; have e2 := keep_cell (belowT hbz ((Below.refl _ _).alloc (Nat.le_refl _) (.cells #[.slice A6 n6 c6, .bool b6] 58))) e2; have HB6 := Lib.hid (belowT HB5.out hbz); have HV6 := Lib.hid hv6; clear hbz hv6)
              | (go_at_call 50; refine (HRN.out _ _ ⟨A6, n6, c6, false, rfl, ri_sign (HV6.out.below ((Below.refl _ _).alloc (Nat.le_refl _) _)) (by omega) (by first | rfl | (simp; omega) | simp)⟩).mono ?_; rintro en w7 ⟨rfl, hbz⟩; have HB7 := Lib.hid (belowT (belowA HB6.out _) hbz); obtain ⟨d0, d1, d2, g0, g1, g2⟩ := BOX.out _ HB7.out; clear hbz))
            obtain ⟨r0, r1, r2, hbb⟩ := FIN.out _ (.int .i64 aa) (.int .i64 bb) (.bool kk) HB7.out
            refine bodyPost_ret (v := .agg #[.int .i64 aa, .int .i64 bb, .bool kk]) (by simp [results, Tryz.results27, go_sem, r0, r1, r2]) rfl ?_
            exact ⟨by first | rw [HRV.out, HF.out] | rw [HRV.out, HZ.out, HF.out], hbb⟩
        · obtain rfl : b9 = false := by rw [HB9.out]; exact decide_eq_false hm
          have HZ : Hid (((M0 : Nat) : Int) = (M0 : Int)) := by show _ = _; omega
          obtain ⟨aa, bb, kk, hf⟩ := rdV_form (rndS ((M0 : Int)) (-p))
          have HRN := Lib.hid (fun v w' h => sround_c v ((M0 : Int)) (-p) w' h (by have := (dg_length_le (b := 10) (by decide) (M0) 13).2 (by omega); rw [show ((M0 : Int) : Int).natAbs = M0 by omega]; omega) (by omega) (by omega))
          rw [hf] at HRN
          have HF := Lib.hid hf
          clear hf
          have HFI := Lib.hid (fun w' => rfromint_c ((M0 : Int)) w' (by omega) (by omega))
          have HOF2 := Lib.hid (fun w' => rof_c _ ((M0 : Int)) w' (numL_int (by omega) (by omega)))
          go_wp2_with (first
            | (go_at_call 94; (with_reducible refine (HFI.out _).mono ?_); rintro en w5 ⟨rfl, hbz⟩; have e0 := keep_cell hbz e0; have e1 := keep_cell hbz e1; have e2 := keep_cell hbz e2; have HB5 := Lib.hid (belowT HB4.out hbz); clear hbz)
            | (go_at_call 93; (with_reducible refine (HOF2.out _).mono ?_); rintro en w6 ⟨v6, rfl, hv6, hbz⟩; obtain ⟨A6, n6, c6, b6, rfl⟩ := hv6.form; have e0 := keep_cell (belowT hbz ((Below.refl _ _).alloc (Nat.le_refl _) (.cells #[.slice A6 n6 c6, .bool b6] 58))) e0; have e1 := keep_cell (belowT hbz ((Below.refl _ _).alloc (Nat.le_refl _) (.cells #[.slice A6 n6 c6, .bool b6] 58))) e1; have e2 := keep_cell (belowT hbz ((Below.refl _ _).alloc (Nat.le_refl _) (.cells #[.slice A6 n6 c6, .bool b6] 58))) e2; have HB6 := Lib.hid (belowT HB5.out hbz); have HV6 := Lib.hid hv6; clear hbz hv6)
            | (go_at_call 50; refine (HRN.out _ _ ⟨A6, n6, c6, false, rfl, ri_sign (HV6.out.below ((Below.refl _ _).alloc (Nat.le_refl _) _)) (by omega) (by first | rfl | (simp; omega) | simp)⟩).mono ?_; rintro en w7 ⟨rfl, hbz⟩; have HB7 := Lib.hid (belowT (belowA HB6.out _) hbz); obtain ⟨d0, d1, d2, g0, g1, g2⟩ := BOX.out _ HB7.out; clear hbz))
          obtain ⟨r0, r1, r2, hbb⟩ := FIN.out _ (.int .i64 aa) (.int .i64 bb) (.bool kk) HB7.out
          refine bodyPost_ret (v := .agg #[.int .i64 aa, .int .i64 bb, .bool kk]) (by simp [results, Tryz.results27, go_sem, r0, r1, r2]) rfl ?_
          exact ⟨by first | rw [HRV.out, HF.out] | rw [HRV.out, HZ.out, HF.out], hbb⟩
      · have hM : M0 = q + 1 := by
          have := HUP.out
          rw [if_pos (HBB.out.1 rfl)] at this
          exact this.symm
        subst hM
        have hzi : (0 : Int) < (q : Int) + 1 := by omega
        have hzd : decide ((0 : Int) < (q : Int) + 1) = true := decide_eq_true hzi
        by_cases hm : m < 0
        · obtain rfl : b9 = true := by rw [HB9.out]; exact decide_eq_true hm
          have HZ : Hid (-((q + 1 : Nat) : Int) = -((q : Int) + 1)) := by show _ = _; omega
          obtain ⟨aa, bb, kk, hf⟩ := rdV_form (rndS (-((q : Int) + 1)) (-p))
          have HRN := Lib.hid (fun v w' h => sround_c v (-((q : Int) + 1)) (-p) w' h (by have := (dg_length_le (b := 10) (by decide) (q + 1) 13).2 (by omega); rw [show (-((q : Int) + 1) : Int).natAbs = q + 1 by omega]; omega) (by omega) (by omega))
          rw [hf] at HRN
          have HF := Lib.hid hf
          clear hf
          have HFI := Lib.hid (fun w' => rfromint_c ((q : Int) + 1) w' (by omega) (by omega))
          have HOF2 := Lib.hid (fun w' => rof_c _ ((q : Int) + 1) w' (numL_int (by omega) (by omega)))
          go_wp2_with (first
            | (go_at_call 94; (with_reducible refine (HFI.out _).mono ?_); rintro en w5 ⟨rfl, hbz⟩; have e0 := keep_cell hbz e0; have e1 := keep_cell hbz e1; have e2 := keep_cell hbz e2; have HB5 := Lib.hid (belowT HB4.out hbz); clear hbz)
            | (go_at_call 93; (with_reducible refine (HOF2.out _).mono ?_); rintro en w6 ⟨v6, rfl, hv6, hbz⟩; obtain ⟨A6, n6, c6, b6, rfl⟩ := hv6.form; have e0 := keep_cell (belowT hbz ((Below.refl _ _).alloc (Nat.le_refl _) (.cells #[.slice A6 n6 c6, .bool b6] 58))) e0; have e1 := keep_cell (belowT hbz ((Below.refl _ _).alloc (Nat.le_refl _) (.cells #[.slice A6 n6 c6, .bool b6] 58))) e1; have e2 := keep_cell (belowT hbz ((Below.refl _ _).alloc (Nat.le_refl _) (.cells #[.slice A6 n6 c6, .bool b6] 58))) e2; have HB6 := Lib.hid (belowT HB5.out hbz); have HV6 := Lib.hid hv6; clear hbz hv6)
            | (go_at_call 50; refine (HRN.out _ _ ⟨A6, n6, c6, true, rfl, ri_sign (HV6.out.below ((Below.refl _ _).alloc (Nat.le_refl _) _)) (by omega) (by first | rfl | (simp; omega) | simp)⟩).mono ?_; rintro en w7 ⟨rfl, hbz⟩; have HB7 := Lib.hid (belowT (belowA HB6.out _) hbz); obtain ⟨d0, d1, d2, g0, g1, g2⟩ := BOX.out _ HB7.out; clear hbz))
          obtain ⟨r0, r1, r2, hbb⟩ := FIN.out _ (.int .i64 aa) (.int .i64 bb) (.bool kk) HB7.out
          refine bodyPost_ret (v := .agg #[.int .i64 aa, .int .i64 bb, .bool kk]) (by simp [results, Tryz.results27, go_sem, r0, r1, r2]) rfl ?_
          exact ⟨by first | rw [HRV.out, HF.out] | rw [HRV.out, HZ.out, HF.out], hbb⟩
        · obtain rfl : b9 = false := by rw [HB9.out]; exact decide_eq_false hm
          have HZ : Hid (((q + 1 : Nat) : Int) = (q : Int) + 1) := by show _ = _; omega
          obtain ⟨aa, bb, kk, hf⟩ := rdV_form (rndS ((q : Int) + 1) (-p))
          have HRN := Lib.hid (fun v w' h => sround_c v ((q : Int) + 1) (-p) w' h (by have := (dg_length_le (b := 10) (by decide) (q + 1) 13).2 (by omega); rw [show ((q : Int) + 1 : Int).natAbs = q + 1 by omega]; omega) (by omega) (by omega))
          rw [hf] at HRN
          have HF := Lib.hid hf
          clear hf
          have HFI := Lib.hid (fun w' => rfromint_c ((q : Int) + 1) w' (by omega) (by omega))
          have HOF2 := Lib.hid (fun w' => rof_c _ ((q : Int) + 1) w' (numL_int (by omega) (by omega)))
          go_wp2_with (first
            | (go_at_call 94; (with_reducible refine (HFI.out _).mono ?_); rintro en w5 ⟨rfl, hbz⟩; have e0 := keep_cell hbz e0; have e1 := keep_cell hbz e1; have e2 := keep_cell hbz e2; have HB5 := Lib.hid (belowT HB4.out hbz); clear hbz)
            | (go_at_call 93; (with_reducible refine (HOF2.out _).mono ?_); rintro en w6 ⟨v6, rfl, hv6, hbz⟩; obtain ⟨A6, n6, c6, b6, rfl⟩ := hv6.form; have e0 := keep_cell (belowT hbz ((Below.refl _ _).alloc (Nat.le_refl _) (.cells #[.slice A6 n6 c6, .bool b6] 58))) e0; have e1 := keep_cell (belowT hbz ((Below.refl _ _).alloc (Nat.le_refl _) (.cells #[.slice A6 n6 c6, .bool b6] 58))) e1; have e2 := keep_cell (belowT hbz ((Below.refl _ _).alloc (Nat.le_refl _) (.cells #[.slice A6 n6 c6, .bool b6] 58))) e2; have HB6 := Lib.hid (belowT HB5.out hbz); have HV6 := Lib.hid hv6; clear hbz hv6)
            | (go_at_call 50; refine (HRN.out _ _ ⟨A6, n6, c6, false, rfl, ri_sign (HV6.out.below ((Below.refl _ _).alloc (Nat.le_refl _) _)) (by omega) (by first | rfl | (simp; omega) | simp)⟩).mono ?_; rintro en w7 ⟨rfl, hbz⟩; have HB7 := Lib.hid (belowT (belowA HB6.out _) hbz); obtain ⟨d0, d1, d2, g0, g1, g2⟩ := BOX.out _ HB7.out; clear hbz))
          obtain ⟨r0, r1, r2, hbb⟩ := FIN.out _ (.int .i64 aa) (.int .i64 bb) (.bool kk) HB7.out
          refine bodyPost_ret (v := .agg #[.int .i64 aa, .int .i64 bb, .bool kk]) (by simp [results, Tryz.results27, go_sem, r0, r1, r2]) rfl ?_
          exact ⟨by first | rw [HRV.out, HF.out] | rw [HRV.out, HZ.out, HF.out], hbb⟩
end Go.Proofs.YtekbfommnmikbaaGreatDoor
/- The law RealScales: its walk. -/
namespace Go.Proofs.YtekbfommnmikbaaGreatDoor
set_option linter.unusedVariables false
set_option linter.unusedSimpArgs false
open Go.RowKit Go.Shelf Go.Proofs Go.Sort
attribute [local go_sem ↓] Go.wp_at_zero Go.wp_at_succ

/-- What is wrong with a real and an int. -/
def badV (p : Prop) [Decidable p] (n : Int) : Int := if 1000 < n ∨ n < -1000 then 1 else argV p p
/-- A rounded result agrees with the reference's. -/
theorem res_agr (o : Option (Int × Int)) : ∃ z1 z2 er a b k, resS o = .tuple #[.agg #[.int .i64 z1, .int .i64 z2], .int .i64 er] ∧ rdV o = .agg #[.int .i64 a, .int .i64 b, .bool k] ∧ Agr z1 z2 er 0 a b k := by
  rcases o with _ | ⟨a, b⟩
  · exact ⟨_, _, _, _, _, _, rfl, rfl, .inr (.inl ⟨rfl, rfl, rfl, rfl, rfl⟩)⟩
  · exact ⟨_, _, _, _, _, _, rfl, rfl, .inr (.inr ⟨rfl, rfl, rfl, rfl, rfl⟩)⟩
/-- Scale. -/
theorem scale_agr (m e n : Int) : ∃ z1 z2 er a b k, scaleR m e n = .tuple #[.agg #[.int .i64 z1, .int .i64 z2], .int .i64 er] ∧ (badV (RV m.natAbs e) n = 0 → rdV (rndS m (e + n)) = .agg #[.int .i64 a, .int .i64 b, .bool k]) ∧ (badV (RV m.natAbs e) n ≠ 0 → a = 0 ∧ b = 0 ∧ k = false) ∧ Agr z1 z2 er (badV (RV m.natAbs e) n) a b k := by
  unfold scaleR badV
  by_cases h : RV m.natAbs e
  · rw [if_neg (fun x => x h)]
    by_cases h1 : 1000 < n ∨ n < -1000
    · rw [if_pos h1, if_pos h1]
      exact ⟨0, 0, 1, 0, 0, false, rfl, fun x => absurd x (by decide), fun _ => ⟨rfl, rfl, rfl⟩, .inl ⟨by decide, rfl, rfl, rfl⟩⟩
    · rw [if_neg h1, if_neg h1, show argV (RV m.natAbs e) (RV m.natAbs e) = 0 by unfold argV; rw [if_pos ⟨h, h⟩], resR_rndS]
      obtain ⟨z1, z2, er, a, b, k, e1, e2, e3⟩ := res_agr (rndS m (e + n))
      exact ⟨z1, z2, er, a, b, k, e1, fun _ => e2, fun x => absurd rfl x, e3⟩
  · have hb : (if 1000 < n ∨ n < -1000 then 1 else argV (RV m.natAbs e) (RV m.natAbs e)) = (1 : Int) := by
      split
      · rfl
      · unfold argV; rw [if_neg (fun x => h x.1)]
    rw [if_pos h, hb]
    exact ⟨0, 0, 1, 0, 0, false, rfl, fun x => absurd x (by decide), fun _ => ⟨rfl, rfl, rfl⟩, .inl ⟨by decide, rfl, rfl, rfl⟩⟩
theorem round_places {m e p : Int} (h : RV m.natAbs e) (h1 : ¬ (1000 < p ∨ p < -1000)) : roundR m e p = resS (placesS m e p) := by
  by_cases c0 : m = 0
  · subst c0
    have he : e = 0 := by unfold RV at h; omega
    subst he
    have r2 : placesS 0 0 p = some (0, 0) := by unfold placesS; rw [if_pos (.inl rfl)]
    rw [r2]
    unfold roundR
    rw [if_neg (fun x => x h), if_neg h1]
    by_cases c1 : -p - 0 ≤ 0
    · rw [if_pos c1]; rfl
    · rw [if_neg c1, Int.natAbs_zero, nd_zero, if_pos (by omega)]; rfl
  · have hn : nd m.natAbs = 12 := by
      rcases RV_nd h with h2 | h2
      · have := nd_pos (show 0 < m.natAbs by omega); omega
      · exact h2
    by_cases c1 : -p - e ≤ 0
    · have r2 : placesS m e p = some (m, e) := by unfold placesS; rw [if_pos (.inr (by omega))]
      rw [r2]
      unfold roundR
      rw [if_neg (fun x => x h), if_neg h1, if_pos c1]
      rfl
    · by_cases c2 : (12 : Int) < -p - e
      · have r2 : placesS m e p = some (0, 0) := by unfold placesS; rw [if_neg (by omega), if_pos c2]
        rw [r2]
        unfold roundR
        rw [if_neg (fun x => x h), if_neg h1, if_neg c1, hn, if_pos (by omega)]
        rfl
      · have r2 : placesS m e p = rndS (if m < 0 then -(rdiv m.natAbs (-p - e).toNat : Int) else (rdiv m.natAbs (-p - e).toNat : Int)) (-p) := by unfold placesS; rw [if_neg (by omega), if_neg c2]
        have r1 : roundR m e p = resR (decide (m < 0)) (rnd (rdiv m.natAbs (-p - e).toNat) (-p)) := by
          unfold roundR
          rw [if_neg (fun x => x h), if_neg h1, if_neg c1, hn, if_neg (by omega)]
        rw [r1, r2, resR_sgo]
        congr 1
        unfold rndS
        generalize rdiv m.natAbs (-p - e).toNat = q
        by_cases hm : m < 0
        · rw [if_pos hm, Int.natAbs_neg, Int.natAbs_natCast, decide_eq_true hm]
          by_cases hq : q = 0
          · subst hq; rw [rnd_zero]; rfl
          · rw [decide_eq_true (by omega : -(q : Int) < 0)]
        · rw [if_neg hm, Int.natAbs_natCast, decide_eq_false hm, decide_eq_false (by omega : ¬ (q : Int) < 0)]
/-- Round. -/
theorem places_agr (m e p : Int) : ∃ z1 z2 er a b k, roundR m e p = .tuple #[.agg #[.int .i64 z1, .int .i64 z2], .int .i64 er] ∧ (badV (RV m.natAbs e) p = 0 → rdV (placesS m e p) = .agg #[.int .i64 a, .int .i64 b, .bool k]) ∧ (badV (RV m.natAbs e) p ≠ 0 → a = 0 ∧ b = 0 ∧ k = false) ∧ Agr z1 z2 er (badV (RV m.natAbs e) p) a b k := by
  by_cases h : RV m.natAbs e
  · by_cases h1 : 1000 < p ∨ p < -1000
    · have e1 : roundR m e p = .tuple #[.agg #[.int .i64 0, .int .i64 0], .int .i64 1] := by unfold roundR; rw [if_neg (fun x => x h), if_pos h1]
      have e2 : badV (RV m.natAbs e) p = 1 := by unfold badV; rw [if_pos h1]
      rw [e1, e2]
      exact ⟨0, 0, 1, 0, 0, false, rfl, fun x => absurd x (by decide), fun _ => ⟨rfl, rfl, rfl⟩, .inl ⟨by decide, rfl, rfl, rfl⟩⟩
    · have e2 : badV (RV m.natAbs e) p = 0 := by unfold badV argV; rw [if_neg h1, if_pos ⟨h, h⟩]
      rw [round_places h h1, e2]
      obtain ⟨z1, z2, er, a, b, k, e1, e2, e3⟩ := res_agr (placesS m e p)
      exact ⟨z1, z2, er, a, b, k, e1, fun _ => e2, fun x => absurd rfl x, e3⟩
  · have e1 : roundR m e p = .tuple #[.agg #[.int .i64 0, .int .i64 0], .int .i64 1] := by unfold roundR; rw [if_pos h]
    have e2 : badV (RV m.natAbs e) p = 1 := by
      unfold badV
      split
      · rfl
      · unfold argV; rw [if_neg (fun x => h x.1)]
    rw [e1, e2]
    exact ⟨0, 0, 1, 0, 0, false, rfl, fun x => absurd x (by decide), fun _ => ⟨rfl, rfl, rfl⟩, .inl ⟨by decide, rfl, rfl, rfl⟩⟩
theorem bad_ok {p : Prop} [Decidable p] {n : Int} (h : badV p n = 0) : p ∧ ¬ (1000 < n ∨ n < -1000) := by
  unfold badV argV at h
  by_cases h1 : 1000 < n ∨ n < -1000
  · rw [if_pos h1] at h; cases h
  · rw [if_neg h1] at h
    by_cases hp : p
    · exact ⟨hp, h1⟩
    · rw [if_neg (fun x => hp x.1)] at h; cases h

set_option maxRecDepth 100000 in
set_option maxHeartbeats 2000000 in
theorem scales1_c (b1 b2 : Nat) (m e n a b : Int) (k : Bool) (w : World) (H : Hid (∀ w', Calls Tryz.prog 24 #[.agg #[.int .i64 m, .int .i64 e], .int .i64 n] w' fun en w2 => en = .returned (.agg #[.int .i64 a, .int .i64 b, .bool k]) ∧ Below w'.heap.size w' w2)) (c0 : w.cell? ⟨b1, 0, none⟩ = some (.int .i64 m)) (c1 : w.cell? ⟨b1, 1, none⟩ = some (.int .i64 e)) (c2 : w.cell? ⟨b2, 0, none⟩ = some (.int .i64 n)) :
    Calls Tryz.prog 23 #[.pointer (some ⟨b1, 0, none⟩), .pointer (some ⟨b2, 0, none⟩)] w fun en w' => en = .returned (.agg #[.int .i64 a, .int .i64 b, .bool k]) ∧ Below w.heap.size w w' := by
  obtain ⟨W, hW, k0⟩ : ∃ W, w.alloc (.cells #[.int .i64 0, .int .i64 0, .bool false] 30) = W ∧ W.heap[w.heap.size]? = some (.cells #[.int .i64 0, .int .i64 0, .bool false] 30 (0, 0)) := ⟨_, rfl, heap_alloc_new _ _⟩
  have hbel : Below w.heap.size w W := by rw [← hW]; exact (Below.refl _ _).alloc (Nat.le_refl _) _
  have c0 := keep_cell hbel c0; have c1 := keep_cell hbel c1; have c2 := keep_cell hbel c2
  have BOX := box3 k0
  have FIN := fin3 k0 (Nat.le_refl _) hbel
  clear k0 hbel
  go_enter Tryz.func23, Tryz.ntmps23
  go_wp2_with (go_at_call 24; (with_reducible refine (H.out _).mono ?_); rintro en w2 ⟨rfl, hbz⟩; have HB := Lib.hid hbz; clear hbz; obtain ⟨d0, d1, d2, f0, f1, f2⟩ := BOX.out _ HB.out)
  obtain ⟨r0, r1, r2, hbb⟩ := FIN.out _ (.int .i64 a) (.int .i64 b) (.bool k) HB.out
  refine bodyPost_ret (v := .agg #[.int .i64 a, .int .i64 b, .bool k]) (by simp [results, Tryz.results23, go_sem, r0, r1, r2]) rfl ?_
  exact ⟨rfl, hbb⟩

set_option maxRecDepth 100000 in
set_option maxHeartbeats 2000000 in
theorem scales2_c (b1 b2 : Nat) (m e n a b : Int) (k : Bool) (w : World) (H : Hid (∀ w', Calls Tryz.prog 27 #[.agg #[.int .i64 m, .int .i64 e], .int .i64 n] w' fun en w2 => en = .returned (.agg #[.int .i64 a, .int .i64 b, .bool k]) ∧ Below w'.heap.size w' w2)) (c0 : w.cell? ⟨b1, 0, none⟩ = some (.int .i64 m)) (c1 : w.cell? ⟨b1, 1, none⟩ = some (.int .i64 e)) (c2 : w.cell? ⟨b2, 0, none⟩ = some (.int .i64 n)) :
    Calls Tryz.prog 26 #[.pointer (some ⟨b1, 0, none⟩), .pointer (some ⟨b2, 0, none⟩)] w fun en w' => en = .returned (.agg #[.int .i64 a, .int .i64 b, .bool k]) ∧ Below w.heap.size w w' := by
  obtain ⟨W, hW, k0⟩ : ∃ W, w.alloc (.cells #[.int .i64 0, .int .i64 0, .bool false] 30) = W ∧ W.heap[w.heap.size]? = some (.cells #[.int .i64 0, .int .i64 0, .bool false] 30 (0, 0)) := ⟨_, rfl, heap_alloc_new _ _⟩
  have hbel : Below w.heap.size w W := by rw [← hW]; exact (Below.refl _ _).alloc (Nat.le_refl _) _
  have c0 := keep_cell hbel c0; have c1 := keep_cell hbel c1; have c2 := keep_cell hbel c2
  have BOX := box3 k0
  have FIN := fin3 k0 (Nat.le_refl _) hbel
  clear k0 hbel
  go_enter Tryz.func26, Tryz.ntmps26
  go_wp2_with (go_at_call 27; (with_reducible refine (H.out _).mono ?_); rintro en w2 ⟨rfl, hbz⟩; have HB := Lib.hid hbz; clear hbz; obtain ⟨d0, d1, d2, f0, f1, f2⟩ := BOX.out _ HB.out)
  obtain ⟨r0, r1, r2, hbb⟩ := FIN.out _ (.int .i64 a) (.int .i64 b) (.bool k) HB.out
  refine bodyPost_ret (v := .agg #[.int .i64 a, .int .i64 b, .bool k]) (by simp [results, Tryz.results26, go_sem, r0, r1, r2]) rfl ?_
  exact ⟨rfl, hbb⟩

set_option maxRecDepth 100000 in
set_option maxHeartbeats 8000000 in
theorem scales_walk (xm xe n p : Int) (w : World) (ht : P10 w) (hx0 : -9223372036854775808 ≤ xm) (hx1 : xm ≤ 9223372036854775807) :
    Calls Tryz.prog 3 #[.agg #[.int .i64 xm, .int .i64 xe], .int .i64 n, .int .i64 p] w fun en w' => en = .returned (.bool true) ∧ Below w.heap.size w w' := by
  obtain ⟨W, hW, k0, k1, k2, hbel⟩ := bx3h w #[.int .i64 xm, .int .i64 xe] #[.int .i64 n] #[.int .i64 p] 23 3 3
  have HBEL := Lib.hid hbel
  have HT := Lib.hid (ht.below hbel)
  obtain ⟨c0, c1⟩ := two_cells k0
  have n0 := cell_of_heap k1 0
  have p0 := cell_of_heap k2 0
  simp at n0 p0
  have HSAN : Hid (∀ w' : World, P10 w' → Calls Tryz.prog 25 #[] w' fun e w2 => e = .returned (.bool true) ∧ Below w'.heap.size w' w2) := sanityR_c
  obtain ⟨z1, z2, er, a, b, k, hst, hok, hno, hag⟩ := scale_agr xm xe n
  obtain ⟨y1, y2, fr, a', b', k', hst', hok', hno', hag'⟩ := places_agr xm xe p
  have HSC := Lib.hid (fun w' => scaleR_c xm xe n w' hx0 hx1)
  rw [hst] at HSC
  have HRO := Lib.hid (fun w' => roundR_c xm xe p w' hx0 hx1)
  rw [hst'] at HRO
  have HARG := Lib.hid (fun w' => arg_c xm xe xm xe w' hx0 hx1 hx0 hx1)
  have HAGR := Lib.hid (fun w' => agrees_c _ _ _ _ _ _ _ w' hag)
  have HAGR' := Lib.hid (fun w' => agrees_c _ _ _ _ _ _ _ w' hag')
  have HNONE : Hid (∀ w' : World, w'.cell? ⟨w.heap.size, 0, none⟩ = some (.int .i64 xm) → w'.cell? ⟨w.heap.size, 1, none⟩ = some (.int .i64 xe) → w'.cell? ⟨w.heap.size + 1, 0, none⟩ = some (.int .i64 n) → Calls Tryz.prog 22 #[.int .i64 (badV (RV xm.natAbs xe) n), .func (.func 23) #[] #[.pointer (some ⟨w.heap.size, 0, none⟩), .pointer (some ⟨w.heap.size + 1, 0, none⟩)]] w' fun en w2 => en = .returned (.agg #[.int .i64 a, .int .i64 b, .bool k]) ∧ Below w'.heap.size w' w2) := by
    intro w' e0 e1 e2
    by_cases h : badV (RV xm.natAbs xe) n = 0
    · rw [h]
      obtain ⟨h1, h2⟩ := bad_ok h
      have hr := hok h
      exact none_ok _ _ a b k w' (enters_of Tryz.func23 (by kernel_rfl) rfl) fun w2 hb => scales1_c _ _ xm xe n a b k w2 (fun w3 => by rw [← hr]; exact sscale_c xm xe n w3 h1 (by omega) (by omega)) (keep_cell hb e0) (keep_cell hb e1) (keep_cell hb e2)
    · obtain ⟨rfl, rfl, rfl⟩ := hno h
      exact none_bad _ _ w' h
  have HNONE2 : Hid (∀ w' : World, w'.cell? ⟨w.heap.size, 0, none⟩ = some (.int .i64 xm) → w'.cell? ⟨w.heap.size, 1, none⟩ = some (.int .i64 xe) → w'.cell? ⟨w.heap.size + 2, 0, none⟩ = some (.int .i64 p) → Calls Tryz.prog 22 #[.int .i64 (badV (RV xm.natAbs xe) p), .func (.func 26) #[] #[.pointer (some ⟨w.heap.size, 0, none⟩), .pointer (some ⟨w.heap.size + 2, 0, none⟩)]] w' fun en w2 => en = .returned (.agg #[.int .i64 a', .int .i64 b', .bool k']) ∧ Below w'.heap.size w' w2) := by
    intro w' e0 e1 e2
    by_cases h : badV (RV xm.natAbs xe) p = 0
    · rw [h]
      obtain ⟨h1, h2⟩ := bad_ok h
      have hr := hok' h
      exact none_ok _ _ a' b' k' w' (enters_of Tryz.func26 (by kernel_rfl) rfl) fun w2 hb => scales2_c _ _ xm xe p a' b' k' w2 (fun w3 => by rw [← hr]; exact splaces_c xm xe p w3 h1 (by omega) (by omega)) (keep_cell hb e0) (keep_cell hb e1) (keep_cell hb e2)
    · obtain ⟨rfl, rfl, rfl⟩ := hno' h
      exact none_bad _ _ w' h
  obtain ⟨bad0, hbad0⟩ : ∃ bad, argV (RV xm.natAbs xe) (RV xm.natAbs xe) = bad := ⟨_, rfl⟩
  obtain ⟨t1, ht1⟩ : ∃ t : Bool, (t = true ↔ (1000 < n ∨ n < -1000)) := ⟨decide (1000 < n ∨ n < -1000), by simp⟩
  obtain ⟨t2, ht2⟩ : ∃ t : Bool, (t = true ↔ (1000 < p ∨ p < -1000)) := ⟨decide (1000 < p ∨ p < -1000), by simp⟩
  have hb1 : badV (RV xm.natAbs xe) n = if t1 = true then 1 else bad0 := by
    unfold badV; rw [hbad0]
    by_cases h : 1000 < n ∨ n < -1000
    · rw [if_pos h, if_pos (ht1.2 h)]
    · rw [if_neg h, if_neg (fun x => h (ht1.1 x))]
  have hb2 : badV (RV xm.natAbs xe) p = if t2 = true then 1 else bad0 := by
    unfold badV; rw [hbad0]
    by_cases h : 1000 < p ∨ p < -1000
    · rw [if_pos h, if_pos (ht2.2 h)]
    · rw [if_neg h, if_neg (fun x => h (ht2.1 x))]
  obtain ⟨bad, hbad⟩ : ∃ bad, badV (RV xm.natAbs xe) n = bad := ⟨_, rfl⟩
  obtain ⟨baf, hbaf⟩ : ∃ bad, badV (RV xm.natAbs xe) p = bad := ⟨_, rfl⟩
  rw [hbad] at HAGR HNONE hb1
  rw [hbaf] at HAGR' HNONE2 hb2
  rw [hbad0] at HARG
  have HB1 := Lib.hid hb1; have HB2 := Lib.hid hb2; have HT1 := Lib.hid ht1; have HT2 := Lib.hid ht2
  clear k0 k1 k2 hbel hst hok hno hag hst' hok' hno' hag' hbad hbaf hbad0 hb1 hb2 ht1 ht2 hx0 hx1
  go_enter Tryz.func3, Tryz.ntmps3
  go_upto_region 4 with (first
    | (go_at_call 18; (with_reducible refine (HSC.out _).mono ?_); rintro en w2 ⟨rfl, hbz⟩; have c0 := keep_cell hbz c0; have c1 := keep_cell hbz c1; have Ac0 := fun o => keep_cell ((Below.refl _ _).alloc (Nat.le_refl _) o) c0; have Ac1 := fun o => keep_cell ((Below.refl _ _).alloc (Nat.le_refl _) o) c1; have n0 := keep_cell hbz n0; have p0 := keep_cell hbz p0; have An0 := fun o => keep_cell ((Below.refl _ _).alloc (Nat.le_refl _) o) n0; have Ap0 := fun o => keep_cell ((Below.refl _ _).alloc (Nat.le_refl _) o) p0; have HB := Lib.hid hbz; clear hbz)
    | (go_at_call 19; (with_reducible refine (HRO.out _).mono ?_); rintro en w3 ⟨rfl, hbz⟩; have c0 := keep_cell hbz (keep_cell ((Below.refl _ _).alloc (Nat.le_refl _) _) c0); have c1 := keep_cell hbz (keep_cell ((Below.refl _ _).alloc (Nat.le_refl _) _) c1); obtain ⟨q0, q1⟩ := two_cells (heapB hbz (heap_alloc_new _ _)); have Ac0 := fun o => keep_cell ((Below.refl _ _).alloc (Nat.le_refl _) o) c0; have Ac1 := fun o => keep_cell ((Below.refl _ _).alloc (Nat.le_refl _) o) c1; have Aq0 := fun o => keep_cell ((Below.refl _ _).alloc (Nat.le_refl _) o) q0; have Aq1 := fun o => keep_cell ((Below.refl _ _).alloc (Nat.le_refl _) o) q1; have n0 := keep_cell hbz (keep_cell ((Below.refl _ _).alloc (Nat.le_refl _) _) n0); have p0 := keep_cell hbz (keep_cell ((Below.refl _ _).alloc (Nat.le_refl _) _) p0); have An0 := fun o => keep_cell ((Below.refl _ _).alloc (Nat.le_refl _) o) n0; have Ap0 := fun o => keep_cell ((Below.refl _ _).alloc (Nat.le_refl _) o) p0; have HB := Lib.hid (belowT (belowA HB.out _) hbz); clear hbz)
    | (go_at_call 20; (with_reducible refine (HARG.out _).mono ?_); rintro en ZW ⟨rfl, hbz⟩; have c0 := keep_cell hbz (keep_cell ((Below.refl _ _).alloc (Nat.le_refl _) _) c0); have c1 := keep_cell hbz (keep_cell ((Below.refl _ _).alloc (Nat.le_refl _) _) c1); have q0 := keep_cell hbz (keep_cell ((Below.refl _ _).alloc (Nat.le_refl _) _) q0); have q1 := keep_cell hbz (keep_cell ((Below.refl _ _).alloc (Nat.le_refl _) _) q1); obtain ⟨s0, s1⟩ := two_cells (heapB hbz (heap_alloc_new _ _)); have Ac0 := fun o => keep_cell ((Below.refl _ _).alloc (Nat.le_refl _) o) c0; have Ac1 := fun o => keep_cell ((Below.refl _ _).alloc (Nat.le_refl _) o) c1; have Aq0 := fun o => keep_cell ((Below.refl _ _).alloc (Nat.le_refl _) o) q0; have Aq1 := fun o => keep_cell ((Below.refl _ _).alloc (Nat.le_refl _) o) q1; have As0 := fun o => keep_cell ((Below.refl _ _).alloc (Nat.le_refl _) o) s0; have As1 := fun o => keep_cell ((Below.refl _ _).alloc (Nat.le_refl _) o) s1; have n0 := keep_cell hbz (keep_cell ((Below.refl _ _).alloc (Nat.le_refl _) _) n0); have p0 := keep_cell hbz (keep_cell ((Below.refl _ _).alloc (Nat.le_refl _) _) p0); have An0 := fun o => keep_cell ((Below.refl _ _).alloc (Nat.le_refl _) o) n0; have Ap0 := fun o => keep_cell ((Below.refl _ _).alloc (Nat.le_refl _) o) p0; have HB := Lib.hid (belowT (belowA HB.out _) hbz); clear hbz))
  have HBZ := HB
  clear HB Ac0 Ac1 Aq0 Aq1 As0 As1 An0 Ap0
  go_cut [32] from 27 to 32 (fun v wx => v = .bool t1 ∧ wx = ZW)
  case first =>
    by_cases h1 : 1000 < n
    · obtain rfl : t1 = true := HT1.out.2 (.inl h1)
      go_wp2_with fail
      go_meet
      exact ⟨rfl, rfl⟩
    · by_cases h2 : n < -1000
      · obtain rfl : t1 = true := HT1.out.2 (.inr h2)
        go_wp2_with fail
        go_meet
        exact ⟨rfl, rfl⟩
      · obtain rfl : t1 = false := by
          cases t1
          · rfl
          · have := HT1.out.1 rfl; omega
        go_wp2_with fail
        go_meet
        exact ⟨rfl, rfl⟩
  obtain ⟨rfl, hT⟩ := hcut
  rw [hT]
  clear hT
  go_upto_if 32 with fail
  go_cut [11] from 32 to 32 (fun v wx => v = .int .i64 bad ∧ wx = ZW)
  case first =>
    cases t1
    · obtain rfl : bad = bad0 := HB1.out.trans (if_neg (by decide))
      go_wp2_with fail
      go_meet
      exact ⟨rfl, rfl⟩
    · obtain rfl : bad = 1 := HB1.out.trans (if_pos rfl)
      go_wp2_with fail
      go_meet
      exact ⟨rfl, rfl⟩
  obtain ⟨rfl, hT⟩ := hcut
  rw [hT]
  clear hT
  go_upto_region 6 with fail
  go_cut [40] from 33 to 40 (fun v wx => v = .bool false ∧ Hid (Below ZW.heap.size ZW wx))
  case first =>
    have HSTL : StableL [(fun _ v => v = .agg #[.int .i64 z1, .int .i64 z2]), (fun _ v => v = .int .i64 er), (fun _ v => v = .int .i64 bad), (fun _ v => v = .int .i64 bad), (fun _ v => v = .func (.func 23) #[] #[.pointer (some ⟨w.heap.size, 0, none⟩), .pointer (some ⟨w.heap.size + 1, 0, none⟩)]), (fun _ v => v = .agg #[.int .i64 a, .int .i64 b, .bool k]), (fun _ v => v = .bool true), (fun _ v => v = .bool false)] := ⟨(fun _ _ _ _ h => h), (fun _ _ _ _ h => h), (fun _ _ _ _ h => h), (fun _ _ _ _ h => h), (fun _ _ _ _ h => h), (fun _ _ _ _ h => h), (fun _ _ _ _ h => h), (fun _ _ _ _ h => h), trivial⟩
    refine wp_region_p [33, 34, 35, 36, 37, 38, 39, 40] [33, 34, 35, 36, 37, 38, 39, 40] [(fun _ v => v = .agg #[.int .i64 z1, .int .i64 z2]), (fun _ v => v = .int .i64 er), (fun _ v => v = .int .i64 bad), (fun _ v => v = .int .i64 bad), (fun _ v => v = .func (.func 23) #[] #[.pointer (some ⟨w.heap.size, 0, none⟩), .pointer (some ⟨w.heap.size + 1, 0, none⟩)]), (fun _ v => v = .agg #[.int .i64 a, .int .i64 b, .bool k]), (fun _ v => v = .bool true), (fun _ v => v = .bool false)] 8 (fun _ _ => True) 8 rfl (by kernel_rfl) (by kernel_rfl) ?_ ⟨?_, ?_, ?_, ?_, ?_, ?_, ?_, ?_, trivial⟩
    · intro l us wx hl hJ
      have HNF := hJ.nofin (by kernel_rfl)
      have HB := Lib.hid (hJ.below HNF)
      have h40 : us 40 = .bool false := hJ.val HNF 7 (by decide) (hl 7 (by decide))
      clear hl hJ
      simp only [At, List.foldl_cons, List.foldl_nil, List.setIfInBounds_toArray, List.set_cons_zero, List.set_cons_succ]
      go_wp2_with fail
      go_meet
      exact ⟨by first | rfl | assumption, HB⟩
    · refine opAt rfl ?_
      intro l us wx hJ hp hl K hK
      have HJ := Lib.hid hJ; have HP := Lib.hid hp; have HLI := Lib.hid hl; have HF := Lib.hid (hJ.live hl (by decide)); have HBX := Lib.hid (hJ.below HF.out); have HK := hK
      clear hJ hp hl hK
      simp only [At, List.foldl_cons, List.foldl_nil, List.setIfInBounds_toArray, List.set_cons_zero, List.set_cons_succ] at HK
      have HK := Lib.hid HK
      have q0 := keep_cell HBX.out q0
      have q1 := keep_cell HBX.out q1
      simp only [At, List.foldl_cons, List.foldl_nil, List.setIfInBounds_toArray, List.set_cons_zero, List.set_cons_succ]
      refine ⟨?_⟩
      go_simp
      exact HK.out (upd us 33 (.agg #[.int .i64 z1, .int .i64 z2])) wx (by exact HJ.out.go HSTL (by kernel_rfl) 0 HF.out (by decide) (by decide) HP.out (Below.refl _ _) (.agg #[.int .i64 z1, .int .i64 z2]) (rfl))
    · refine opAt rfl ?_
      intro l us wx hJ hp hl K hK
      have HJ := Lib.hid hJ; have HP := Lib.hid hp; have HLI := Lib.hid hl; have HF := Lib.hid (hJ.live hl (by decide)); have HBX := Lib.hid (hJ.below HF.out); have HK := hK
      clear hJ hp hl hK
      simp only [At, List.foldl_cons, List.foldl_nil, List.setIfInBounds_toArray, List.set_cons_zero, List.set_cons_succ] at HK
      have HK := Lib.hid HK
      simp only [At, List.foldl_cons, List.foldl_nil, List.setIfInBounds_toArray, List.set_cons_zero, List.set_cons_succ]
      refine ⟨?_⟩
      go_simp
      exact HK.out (upd us 34 (.int .i64 er)) wx (by exact HJ.out.go HSTL (by kernel_rfl) 1 HF.out (by decide) (by decide) HP.out (Below.refl _ _) (.int .i64 er) (rfl))
    · refine opAt rfl ?_
      intro l us wx hJ hp hl K hK
      have HJ := Lib.hid hJ; have HP := Lib.hid hp; have HLI := Lib.hid hl; have HF := Lib.hid (hJ.live hl (by decide)); have HBX := Lib.hid (hJ.below HF.out); have HK := hK
      clear hJ hp hl hK
      simp only [At, List.foldl_cons, List.foldl_nil, List.setIfInBounds_toArray, List.set_cons_zero, List.set_cons_succ] at HK
      have HK := Lib.hid HK
      simp only [At, List.foldl_cons, List.foldl_nil, List.setIfInBounds_toArray, List.set_cons_zero, List.set_cons_succ]
      refine ⟨?_⟩
      go_simp
      exact HK.out (upd us 35 (.int .i64 bad)) wx (by exact HJ.out.go HSTL (by kernel_rfl) 2 HF.out (by decide) (by decide) HP.out (Below.refl _ _) (.int .i64 bad) (rfl))
    · refine opAt rfl ?_
      intro l us wx hJ hp hl K hK
      have HJ := Lib.hid hJ; have HP := Lib.hid hp; have HLI := Lib.hid hl; have HF := Lib.hid (hJ.live hl (by decide)); have HBX := Lib.hid (hJ.below HF.out); have HK := hK
      clear hJ hp hl hK
      simp only [At, List.foldl_cons, List.foldl_nil, List.setIfInBounds_toArray, List.set_cons_zero, List.set_cons_succ] at HK
      have HK := Lib.hid HK
      simp only [At, List.foldl_cons, List.foldl_nil, List.setIfInBounds_toArray, List.set_cons_zero, List.set_cons_succ]
      refine ⟨?_⟩
      go_simp
      exact HK.out (upd us 36 (.int .i64 bad)) wx (by exact HJ.out.go HSTL (by kernel_rfl) 3 HF.out (by decide) (by decide) HP.out (Below.refl _ _) (.int .i64 bad) (rfl))
    · refine opAt rfl ?_
      intro l us wx hJ hp hl K hK
      have HJ := Lib.hid hJ; have HP := Lib.hid hp; have HLI := Lib.hid hl; have HF := Lib.hid (hJ.live hl (by decide)); have HBX := Lib.hid (hJ.below HF.out); have HK := hK
      clear hJ hp hl hK
      simp only [At, List.foldl_cons, List.foldl_nil, List.setIfInBounds_toArray, List.set_cons_zero, List.set_cons_succ] at HK
      have HK := Lib.hid HK
      simp only [At, List.foldl_cons, List.foldl_nil, List.setIfInBounds_toArray, List.set_cons_zero, List.set_cons_succ]
      refine ⟨?_⟩
      go_simp
      exact HK.out (upd us 37 (.func (.func 23) #[] #[.pointer (some ⟨w.heap.size, 0, none⟩), .pointer (some ⟨w.heap.size + 1, 0, none⟩)])) wx (by exact HJ.out.go HSTL (by kernel_rfl) 4 HF.out (by decide) (by decide) HP.out (Below.refl _ _) (.func (.func 23) #[] #[.pointer (some ⟨w.heap.size, 0, none⟩), .pointer (some ⟨w.heap.size + 1, 0, none⟩)]) (rfl))
    · refine opAt rfl ?_
      intro l us wx hJ hp hl K hK
      have HJ := Lib.hid hJ; have HP := Lib.hid hp; have HLI := Lib.hid hl; have HF := Lib.hid (hJ.live hl (by decide)); have HBX := Lib.hid (hJ.below HF.out); have HK := hK
      clear hJ hp hl hK
      simp only [At, List.foldl_cons, List.foldl_nil, List.setIfInBounds_toArray, List.set_cons_zero, List.set_cons_succ] at HK
      have HK := Lib.hid HK
      have h36 : us 36 = .int .i64 bad := HJ.out.val HF.out 3 (by decide) (HP.out 3 (by kernel_rfl))
      have h37 : us 37 = .func (.func 23) #[] #[.pointer (some ⟨w.heap.size, 0, none⟩), .pointer (some ⟨w.heap.size + 1, 0, none⟩)] := HJ.out.val HF.out 4 (by decide) (HP.out 4 (by kernel_rfl))
      have c0 := keep_cell HBX.out c0
      have c1 := keep_cell HBX.out c1
      have n0 := keep_cell HBX.out n0
      simp only [At, List.foldl_cons, List.foldl_nil, List.setIfInBounds_toArray, List.set_cons_zero, List.set_cons_succ]
      refine ⟨?_⟩
      go_simp
      go_wp2_with ((go_at_call 22; (with_reducible refine (HNONE.out _ c0 c1 n0).mono ?_); rintro en w9 ⟨rfl, hbz⟩; have HC := Lib.hid hbz; clear hbz))
      exact HK.out (upd (upd (upd us 36 (.int .i64 bad)) 37 (.func (.func 23) #[] #[.pointer (some ⟨w.heap.size, 0, none⟩), .pointer (some ⟨w.heap.size + 1, 0, none⟩)])) 38 (.agg #[.int .i64 a, .int .i64 b, .bool k])) w9 (by rw [upd_self h36, upd_self h37]; exact HJ.out.go HSTL (by kernel_rfl) 5 HF.out (by decide) (by decide) HP.out HC.out (.agg #[.int .i64 a, .int .i64 b, .bool k]) (rfl))
    · refine opAt rfl ?_
      intro l us wx hJ hp hl K hK
      have HJ := Lib.hid hJ; have HP := Lib.hid hp; have HLI := Lib.hid hl; have HF := Lib.hid (hJ.live hl (by decide)); have HBX := Lib.hid (hJ.below HF.out); have HK := hK
      clear hJ hp hl hK
      simp only [At, List.foldl_cons, List.foldl_nil, List.setIfInBounds_toArray, List.set_cons_zero, List.set_cons_succ] at HK
      have HK := Lib.hid HK
      have h33 : us 33 = .agg #[.int .i64 z1, .int .i64 z2] := HJ.out.val HF.out 0 (by decide) (HP.out 0 (by kernel_rfl))
      have h34 : us 34 = .int .i64 er := HJ.out.val HF.out 1 (by decide) (HP.out 1 (by kernel_rfl))
      have h35 : us 35 = .int .i64 bad := HJ.out.val HF.out 2 (by decide) (HP.out 2 (by kernel_rfl))
      have h38 : us 38 = .agg #[.int .i64 a, .int .i64 b, .bool k] := HJ.out.val HF.out 5 (by decide) (HP.out 5 (by kernel_rfl))
      simp only [At, List.foldl_cons, List.foldl_nil, List.setIfInBounds_toArray, List.set_cons_zero, List.set_cons_succ]
      refine ⟨?_⟩
      go_simp
      go_wp2_with ((go_at_call 21; (with_reducible refine (HAGR.out _).mono ?_); rintro en w9 ⟨rfl, hbz⟩; have HC := Lib.hid hbz; clear hbz))
      exact HK.out (upd (upd (upd (upd (upd us 33 (.agg #[.int .i64 z1, .int .i64 z2])) 34 (.int .i64 er)) 35 (.int .i64 bad)) 38 (.agg #[.int .i64 a, .int .i64 b, .bool k])) 39 (.bool true)) w9 (by rw [upd_self h33, upd_self h34, upd_self h35, upd_self h38]; exact HJ.out.go HSTL (by kernel_rfl) 6 HF.out (by decide) (by decide) HP.out HC.out (.bool true) (rfl))
    · refine opAt rfl ?_
      intro l us wx hJ hp hl K hK
      have HJ := Lib.hid hJ; have HP := Lib.hid hp; have HLI := Lib.hid hl; have HF := Lib.hid (hJ.live hl (by decide)); have HBX := Lib.hid (hJ.below HF.out); have HK := hK
      clear hJ hp hl hK
      simp only [At, List.foldl_cons, List.foldl_nil, List.setIfInBounds_toArray, List.set_cons_zero, List.set_cons_succ] at HK
      have HK := Lib.hid HK
      have h39 : us 39 = .bool true := HJ.out.val HF.out 6 (by decide) (HP.out 6 (by kernel_rfl))
      simp only [At, List.foldl_cons, List.foldl_nil, List.setIfInBounds_toArray, List.set_cons_zero, List.set_cons_succ]
      refine ⟨?_⟩
      go_simp
      exact HK.out (upd (upd us 39 (.bool true)) 40 (.bool false)) wx (by rw [upd_self h39]; exact HJ.out.go HSTL (by kernel_rfl) 7 HF.out (by decide) (by decide) HP.out (Below.refl _ _) (.bool false) (rfl))
  obtain ⟨rfl, HBC⟩ := hcut
  obtain ⟨T, hT⟩ : ∃ T, wc = T := ⟨_, rfl⟩
  rw [hT] at HBC ⊢
  clear hT
  have c0 := keep_cell HBC.out c0; have c1 := keep_cell HBC.out c1; have n0 := keep_cell HBC.out n0; have p0 := keep_cell HBC.out p0; have s0 := keep_cell HBC.out s0; have s1 := keep_cell HBC.out s1
  have HB := Lib.hid (belowT HBZ.out HBC.out)
  clear HBZ HBC
  go_upto_region 9 with (first
    | (go_at_call 20; (with_reducible refine (HARG.out _).mono ?_); rintro en ZV ⟨rfl, hbz⟩; have c0 := keep_cell hbz c0; have c1 := keep_cell hbz c1; have s0 := keep_cell hbz s0; have s1 := keep_cell hbz s1; have Ac0 := fun o => keep_cell ((Below.refl _ _).alloc (Nat.le_refl _) o) c0; have Ac1 := fun o => keep_cell ((Below.refl _ _).alloc (Nat.le_refl _) o) c1; have As0 := fun o => keep_cell ((Below.refl _ _).alloc (Nat.le_refl _) o) s0; have As1 := fun o => keep_cell ((Below.refl _ _).alloc (Nat.le_refl _) o) s1; have n0 := keep_cell hbz n0; have p0 := keep_cell hbz p0; have An0 := fun o => keep_cell ((Below.refl _ _).alloc (Nat.le_refl _) o) n0; have Ap0 := fun o => keep_cell ((Below.refl _ _).alloc (Nat.le_refl _) o) p0; have HB := Lib.hid (belowT HB.out hbz); clear hbz))
  have HBZ := HB
  clear HB Ac0 Ac1 As0 As1 An0 Ap0
  go_cut [49] from 44 to 49 (fun v wx => v = .bool t2 ∧ wx = ZV)
  case first =>
    by_cases h1 : 1000 < p
    · obtain rfl : t2 = true := HT2.out.2 (.inl h1)
      go_wp2_with fail
      go_meet
      exact ⟨rfl, rfl⟩
    · by_cases h2 : p < -1000
      · obtain rfl : t2 = true := HT2.out.2 (.inr h2)
        go_wp2_with fail
        go_meet
        exact ⟨rfl, rfl⟩
      · obtain rfl : t2 = false := by
          cases t2
          · rfl
          · have := HT2.out.1 rfl; omega
        go_wp2_with fail
        go_meet
        exact ⟨rfl, rfl⟩
  obtain ⟨rfl, hT⟩ := hcut
  rw [hT]
  clear hT
  go_upto_if 49 with fail
  go_cut [11] from 49 to 49 (fun v wx => v = .int .i64 baf ∧ wx = ZV)
  case first =>
    cases t2
    · obtain rfl : baf = bad0 := HB2.out.trans (if_neg (by decide))
      go_wp2_with fail
      go_meet
      exact ⟨rfl, rfl⟩
    · obtain rfl : baf = 1 := HB2.out.trans (if_pos rfl)
      go_wp2_with fail
      go_meet
      exact ⟨rfl, rfl⟩
  obtain ⟨rfl, hT⟩ := hcut
  rw [hT]
  clear hT
  go_upto_region 11 with fail
  go_cut [6] from 50 to 59 (fun v wx => v = .bool true ∧ Hid (Below ZV.heap.size ZV wx))
  case first =>
    have HSTL : StableL [(fun _ v => v = .bool true), (fun _ v => v = .bool true), (fun _ v => v = .agg #[.int .i64 y1, .int .i64 y2]), (fun _ v => v = .int .i64 fr), (fun _ v => v = .int .i64 baf), (fun _ v => v = .int .i64 baf), (fun _ v => v = .func (.func 26) #[] #[.pointer (some ⟨w.heap.size, 0, none⟩), .pointer (some ⟨w.heap.size + 2, 0, none⟩)]), (fun _ v => v = .agg #[.int .i64 a', .int .i64 b', .bool k']), (fun _ v => v = .bool true), (fun _ v => v = .bool true), (fun _ v => v = .bool true)] := ⟨(fun _ _ _ _ h => h), (fun _ _ _ _ h => h), (fun _ _ _ _ h => h), (fun _ _ _ _ h => h), (fun _ _ _ _ h => h), (fun _ _ _ _ h => h), (fun _ _ _ _ h => h), (fun _ _ _ _ h => h), (fun _ _ _ _ h => h), (fun _ _ _ _ h => h), (fun _ _ _ _ h => h), trivial⟩
    refine wp_region_p [50, 51, 52, 53, 54, 55, 56, 57, 58, 59, 6] [50, 51, 52, 53, 54, 55, 56, 57, 58, 59, 6] [(fun _ v => v = .bool true), (fun _ v => v = .bool true), (fun _ v => v = .agg #[.int .i64 y1, .int .i64 y2]), (fun _ v => v = .int .i64 fr), (fun _ v => v = .int .i64 baf), (fun _ v => v = .int .i64 baf), (fun _ v => v = .func (.func 26) #[] #[.pointer (some ⟨w.heap.size, 0, none⟩), .pointer (some ⟨w.heap.size + 2, 0, none⟩)]), (fun _ v => v = .agg #[.int .i64 a', .int .i64 b', .bool k']), (fun _ v => v = .bool true), (fun _ v => v = .bool true), (fun _ v => v = .bool true)] 11 (fun _ _ => True) 11 rfl (by kernel_rfl) (by kernel_rfl) ?_ ⟨?_, ?_, ?_, ?_, ?_, ?_, ?_, ?_, ?_, ?_, ?_, trivial⟩
    · intro l us wx hl hJ
      have HNF := hJ.nofin (by kernel_rfl)
      have HB := Lib.hid (hJ.below HNF)
      have h6 : us 6 = .bool true := hJ.val HNF 10 (by decide) (hl 10 (by decide))
      clear hl hJ
      simp only [At, List.foldl_cons, List.foldl_nil, List.setIfInBounds_toArray, List.set_cons_zero, List.set_cons_succ]
      go_wp2_with fail
      go_meet
      exact ⟨by first | rfl | assumption, HB⟩
    · refine opAt rfl ?_
      intro l us wx hJ hp hl K hK
      have HJ := Lib.hid hJ; have HP := Lib.hid hp; have HLI := Lib.hid hl; have HF := Lib.hid (hJ.live hl (by decide)); have HBX := Lib.hid (hJ.below HF.out); have HK := hK
      clear hJ hp hl hK
      simp only [At, List.foldl_cons, List.foldl_nil, List.setIfInBounds_toArray, List.set_cons_zero, List.set_cons_succ] at HK
      have HK := Lib.hid HK
      simp only [At, List.foldl_cons, List.foldl_nil, List.setIfInBounds_toArray, List.set_cons_zero, List.set_cons_succ]
      refine ⟨?_⟩
      go_simp
      go_wp2_with ((go_at_call 25; (with_reducible refine (HSAN.out _ (HT.out.below (belowT HBZ.out HBX.out))).mono ?_); rintro en w9 ⟨rfl, hbz⟩; have HC := Lib.hid hbz; clear hbz))
      exact HK.out (upd us 50 (.bool true)) w9 (by exact HJ.out.go HSTL (by kernel_rfl) 0 HF.out (by decide) (by decide) HP.out HC.out (.bool true) (rfl))
    · refine opAt rfl ?_
      intro l us wx hJ hp hl K hK
      have HJ := Lib.hid hJ; have HP := Lib.hid hp; have HLI := Lib.hid hl; have HF := Lib.hid (hJ.live hl (by decide)); have HBX := Lib.hid (hJ.below HF.out); have HK := hK
      clear hJ hp hl hK
      simp only [At, List.foldl_cons, List.foldl_nil, List.setIfInBounds_toArray, List.set_cons_zero, List.set_cons_succ] at HK
      have HK := Lib.hid HK
      have h50 : us 50 = .bool true := HJ.out.val HF.out 0 (by decide) (HP.out 0 (by kernel_rfl))
      simp only [At, List.foldl_cons, List.foldl_nil, List.setIfInBounds_toArray, List.set_cons_zero, List.set_cons_succ]
      refine ⟨?_⟩
      go_simp
      exact HK.out (upd (upd us 50 (.bool true)) 51 (.bool true)) wx (by rw [upd_self h50]; exact HJ.out.go HSTL (by kernel_rfl) 1 HF.out (by decide) (by decide) HP.out (Below.refl _ _) (.bool true) (rfl))
    · refine opAt rfl ?_
      intro l us wx hJ hp hl K hK
      have HJ := Lib.hid hJ; have HP := Lib.hid hp; have HLI := Lib.hid hl; have HF := Lib.hid (hJ.live hl (by decide)); have HBX := Lib.hid (hJ.below HF.out); have HK := hK
      clear hJ hp hl hK
      simp only [At, List.foldl_cons, List.foldl_nil, List.setIfInBounds_toArray, List.set_cons_zero, List.set_cons_succ] at HK
      have HK := Lib.hid HK
      have h51 : us 51 = .bool true := HJ.out.val HF.out 1 (by decide) (HP.out 1 (by kernel_rfl))
      have s0 := keep_cell HBX.out s0
      have s1 := keep_cell HBX.out s1
      simp only [At, List.foldl_cons, List.foldl_nil, List.setIfInBounds_toArray, List.set_cons_zero, List.set_cons_succ]
      refine ⟨?_⟩
      go_simp
      exact HK.out (upd (upd us 51 (.bool true)) 52 (.agg #[.int .i64 y1, .int .i64 y2])) wx (by rw [upd_self h51]; exact HJ.out.go HSTL (by kernel_rfl) 2 HF.out (by decide) (by decide) HP.out (Below.refl _ _) (.agg #[.int .i64 y1, .int .i64 y2]) (rfl))
    · refine opAt rfl ?_
      intro l us wx hJ hp hl K hK
      have HJ := Lib.hid hJ; have HP := Lib.hid hp; have HLI := Lib.hid hl; have HF := Lib.hid (hJ.live hl (by decide)); have HBX := Lib.hid (hJ.below HF.out); have HK := hK
      clear hJ hp hl hK
      simp only [At, List.foldl_cons, List.foldl_nil, List.setIfInBounds_toArray, List.set_cons_zero, List.set_cons_succ] at HK
      have HK := Lib.hid HK
      have h51 : us 51 = .bool true := HJ.out.val HF.out 1 (by decide) (HP.out 1 (by kernel_rfl))
      simp only [At, List.foldl_cons, List.foldl_nil, List.setIfInBounds_toArray, List.set_cons_zero, List.set_cons_succ]
      refine ⟨?_⟩
      go_simp
      exact HK.out (upd (upd us 51 (.bool true)) 53 (.int .i64 fr)) wx (by rw [upd_self h51]; exact HJ.out.go HSTL (by kernel_rfl) 3 HF.out (by decide) (by decide) HP.out (Below.refl _ _) (.int .i64 fr) (rfl))
    · refine opAt rfl ?_
      intro l us wx hJ hp hl K hK
      have HJ := Lib.hid hJ; have HP := Lib.hid hp; have HLI := Lib.hid hl; have HF := Lib.hid (hJ.live hl (by decide)); have HBX := Lib.hid (hJ.below HF.out); have HK := hK
      clear hJ hp hl hK
      simp only [At, List.foldl_cons, List.foldl_nil, List.setIfInBounds_toArray, List.set_cons_zero, List.set_cons_succ] at HK
      have HK := Lib.hid HK
      have h51 : us 51 = .bool true := HJ.out.val HF.out 1 (by decide) (HP.out 1 (by kernel_rfl))
      simp only [At, List.foldl_cons, List.foldl_nil, List.setIfInBounds_toArray, List.set_cons_zero, List.set_cons_succ]
      refine ⟨?_⟩
      go_simp
      exact HK.out (upd (upd us 51 (.bool true)) 54 (.int .i64 baf)) wx (by rw [upd_self h51]; exact HJ.out.go HSTL (by kernel_rfl) 4 HF.out (by decide) (by decide) HP.out (Below.refl _ _) (.int .i64 baf) (rfl))
    · refine opAt rfl ?_
      intro l us wx hJ hp hl K hK
      have HJ := Lib.hid hJ; have HP := Lib.hid hp; have HLI := Lib.hid hl; have HF := Lib.hid (hJ.live hl (by decide)); have HBX := Lib.hid (hJ.below HF.out); have HK := hK
      clear hJ hp hl hK
      simp only [At, List.foldl_cons, List.foldl_nil, List.setIfInBounds_toArray, List.set_cons_zero, List.set_cons_succ] at HK
      have HK := Lib.hid HK
      have h51 : us 51 = .bool true := HJ.out.val HF.out 1 (by decide) (HP.out 1 (by kernel_rfl))
      simp only [At, List.foldl_cons, List.foldl_nil, List.setIfInBounds_toArray, List.set_cons_zero, List.set_cons_succ]
      refine ⟨?_⟩
      go_simp
      exact HK.out (upd (upd us 51 (.bool true)) 55 (.int .i64 baf)) wx (by rw [upd_self h51]; exact HJ.out.go HSTL (by kernel_rfl) 5 HF.out (by decide) (by decide) HP.out (Below.refl _ _) (.int .i64 baf) (rfl))
    · refine opAt rfl ?_
      intro l us wx hJ hp hl K hK
      have HJ := Lib.hid hJ; have HP := Lib.hid hp; have HLI := Lib.hid hl; have HF := Lib.hid (hJ.live hl (by decide)); have HBX := Lib.hid (hJ.below HF.out); have HK := hK
      clear hJ hp hl hK
      simp only [At, List.foldl_cons, List.foldl_nil, List.setIfInBounds_toArray, List.set_cons_zero, List.set_cons_succ] at HK
      have HK := Lib.hid HK
      have h51 : us 51 = .bool true := HJ.out.val HF.out 1 (by decide) (HP.out 1 (by kernel_rfl))
      simp only [At, List.foldl_cons, List.foldl_nil, List.setIfInBounds_toArray, List.set_cons_zero, List.set_cons_succ]
      refine ⟨?_⟩
      go_simp
      exact HK.out (upd (upd us 51 (.bool true)) 56 (.func (.func 26) #[] #[.pointer (some ⟨w.heap.size, 0, none⟩), .pointer (some ⟨w.heap.size + 2, 0, none⟩)])) wx (by rw [upd_self h51]; exact HJ.out.go HSTL (by kernel_rfl) 6 HF.out (by decide) (by decide) HP.out (Below.refl _ _) (.func (.func 26) #[] #[.pointer (some ⟨w.heap.size, 0, none⟩), .pointer (some ⟨w.heap.size + 2, 0, none⟩)]) (rfl))
    · refine opAt rfl ?_
      intro l us wx hJ hp hl K hK
      have HJ := Lib.hid hJ; have HP := Lib.hid hp; have HLI := Lib.hid hl; have HF := Lib.hid (hJ.live hl (by decide)); have HBX := Lib.hid (hJ.below HF.out); have HK := hK
      clear hJ hp hl hK
      simp only [At, List.foldl_cons, List.foldl_nil, List.setIfInBounds_toArray, List.set_cons_zero, List.set_cons_succ] at HK
      have HK := Lib.hid HK
      have h51 : us 51 = .bool true := HJ.out.val HF.out 1 (by decide) (HP.out 1 (by kernel_rfl))
      have h55 : us 55 = .int .i64 baf := HJ.out.val HF.out 5 (by decide) (HP.out 5 (by kernel_rfl))
      have h56 : us 56 = .func (.func 26) #[] #[.pointer (some ⟨w.heap.size, 0, none⟩), .pointer (some ⟨w.heap.size + 2, 0, none⟩)] := HJ.out.val HF.out 6 (by decide) (HP.out 6 (by kernel_rfl))
      have c0 := keep_cell HBX.out c0
      have c1 := keep_cell HBX.out c1
      have p0 := keep_cell HBX.out p0
      simp only [At, List.foldl_cons, List.foldl_nil, List.setIfInBounds_toArray, List.set_cons_zero, List.set_cons_succ]
      refine ⟨?_⟩
      go_simp
      go_wp2_with ((go_at_call 22; (with_reducible refine (HNONE2.out _ c0 c1 p0).mono ?_); rintro en w9 ⟨rfl, hbz⟩; have HC := Lib.hid hbz; clear hbz))
      exact HK.out (upd (upd (upd (upd us 51 (.bool true)) 55 (.int .i64 baf)) 56 (.func (.func 26) #[] #[.pointer (some ⟨w.heap.size, 0, none⟩), .pointer (some ⟨w.heap.size + 2, 0, none⟩)])) 57 (.agg #[.int .i64 a', .int .i64 b', .bool k'])) w9 (by rw [upd_self h51, upd_self h55, upd_self h56]; exact HJ.out.go HSTL (by kernel_rfl) 7 HF.out (by decide) (by decide) HP.out HC.out (.agg #[.int .i64 a', .int .i64 b', .bool k']) (rfl))
    · refine opAt rfl ?_
      intro l us wx hJ hp hl K hK
      have HJ := Lib.hid hJ; have HP := Lib.hid hp; have HLI := Lib.hid hl; have HF := Lib.hid (hJ.live hl (by decide)); have HBX := Lib.hid (hJ.below HF.out); have HK := hK
      clear hJ hp hl hK
      simp only [At, List.foldl_cons, List.foldl_nil, List.setIfInBounds_toArray, List.set_cons_zero, List.set_cons_succ] at HK
      have HK := Lib.hid HK
      have h51 : us 51 = .bool true := HJ.out.val HF.out 1 (by decide) (HP.out 1 (by kernel_rfl))
      have h52 : us 52 = .agg #[.int .i64 y1, .int .i64 y2] := HJ.out.val HF.out 2 (by decide) (HP.out 2 (by kernel_rfl))
      have h53 : us 53 = .int .i64 fr := HJ.out.val HF.out 3 (by decide) (HP.out 3 (by kernel_rfl))
      have h54 : us 54 = .int .i64 baf := HJ.out.val HF.out 4 (by decide) (HP.out 4 (by kernel_rfl))
      have h57 : us 57 = .agg #[.int .i64 a', .int .i64 b', .bool k'] := HJ.out.val HF.out 7 (by decide) (HP.out 7 (by kernel_rfl))
      simp only [At, List.foldl_cons, List.foldl_nil, List.setIfInBounds_toArray, List.set_cons_zero, List.set_cons_succ]
      refine ⟨?_⟩
      go_simp
      go_wp2_with ((go_at_call 21; (with_reducible refine (HAGR'.out _).mono ?_); rintro en w9 ⟨rfl, hbz⟩; have HC := Lib.hid hbz; clear hbz))
      exact HK.out (upd (upd (upd (upd (upd (upd us 51 (.bool true)) 52 (.agg #[.int .i64 y1, .int .i64 y2])) 53 (.int .i64 fr)) 54 (.int .i64 baf)) 57 (.agg #[.int .i64 a', .int .i64 b', .bool k'])) 58 (.bool true)) w9 (by rw [upd_self h51, upd_self h52, upd_self h53, upd_self h54, upd_self h57]; exact HJ.out.go HSTL (by kernel_rfl) 8 HF.out (by decide) (by decide) HP.out HC.out (.bool true) (rfl))
    · refine opAt rfl ?_
      intro l us wx hJ hp hl K hK
      have HJ := Lib.hid hJ; have HP := Lib.hid hp; have HLI := Lib.hid hl; have HF := Lib.hid (hJ.live hl (by decide)); have HBX := Lib.hid (hJ.below HF.out); have HK := hK
      clear hJ hp hl hK
      simp only [At, List.foldl_cons, List.foldl_nil, List.setIfInBounds_toArray, List.set_cons_zero, List.set_cons_succ] at HK
      have HK := Lib.hid HK
      have h51 : us 51 = .bool true := HJ.out.val HF.out 1 (by decide) (HP.out 1 (by kernel_rfl))
      have h58 : us 58 = .bool true := HJ.out.val HF.out 8 (by decide) (HP.out 8 (by kernel_rfl))
      simp only [At, List.foldl_cons, List.foldl_nil, List.setIfInBounds_toArray, List.set_cons_zero, List.set_cons_succ]
      refine ⟨?_⟩
      go_simp
      exact HK.out (upd (upd (upd us 51 (.bool true)) 58 (.bool true)) 59 (.bool true)) wx (by rw [upd_self h51, upd_self h58]; exact HJ.out.go HSTL (by kernel_rfl) 9 HF.out (by decide) (by decide) HP.out (Below.refl _ _) (.bool true) (rfl))
    · refine opAt rfl ?_
      intro l us wx hJ hp hl K hK
      have HJ := Lib.hid hJ; have HP := Lib.hid hp; have HLI := Lib.hid hl; have HF := Lib.hid (hJ.live hl (by decide)); have HBX := Lib.hid (hJ.below HF.out); have HK := hK
      clear hJ hp hl hK
      simp only [At, List.foldl_cons, List.foldl_nil, List.setIfInBounds_toArray, List.set_cons_zero, List.set_cons_succ] at HK
      have HK := Lib.hid HK
      have h59 : us 59 = .bool true := HJ.out.val HF.out 9 (by decide) (HP.out 9 (by kernel_rfl))
      simp only [At, List.foldl_cons, List.foldl_nil, List.setIfInBounds_toArray, List.set_cons_zero, List.set_cons_succ]
      refine ⟨?_⟩
      go_simp
      exact HK.out (upd (upd us 59 (.bool true)) 6 (.bool true)) wx (by rw [upd_self h59]; exact HJ.out.go HSTL (by kernel_rfl) 10 HF.out (by decide) (by decide) HP.out (Below.refl _ _) (.bool true) (rfl))
  obtain ⟨rfl, HBC⟩ := hcut
  go_wp2_with fail
  go_ret
  exact ⟨rfl, belowT HBEL.out (belowT HBZ.out HBC.out)⟩
end Go.Proofs.YtekbfommnmikbaaGreatDoor
/- Plain laws: the root keeps the order; the floor. -/
namespace Go.Proofs.YtekbfommnmikbaaGreatDoor
set_option linter.unusedVariables false
set_option linter.unusedSimpArgs false

/-- The floor of a real. -/
def floorV (m e : Int) : Int := if 0 ≤ e then m * 10 ^ e.toNat else m.fdiv (10 ^ (-e).toNat)
end Go.Proofs.YtekbfommnmikbaaGreatDoor
