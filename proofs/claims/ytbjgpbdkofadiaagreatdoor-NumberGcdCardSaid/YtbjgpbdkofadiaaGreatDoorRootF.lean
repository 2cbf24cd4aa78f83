/- Root. -/
import Derived.Test.YtbjgpbdkofadiaaGreatDoorOps4
import Derived.Test.YtbjgpbdkofadiaaGreatDoorArith
namespace Go.Proofs.YtbjgpbdkofadiaaGreatDoor
set_option linter.unusedVariables false
set_option linter.unusedSimpArgs false
open Go.RowKit Go.Shelf Go.Proofs

/-- A slice of one digit, newly made. -/
theorem dg_lit (W : World) (d : Nat) (t : TypeId) (h0 : 0 < d) (h1 : d < 1000000000) : Dg 1000000000 (W.alloc (.cells #[.int .i64 (d : Int)] t)) (.slice (some ⟨W.heap.size, 0, none⟩) 1 1) d := by
  unfold Dg
  rw [dg_single (b := 1000000000) (d := d) (by decide) h0 h1]
  exact ⟨_, _, rfl, by simp, by omega, lit_row W d t⟩

/-- What Root makes. -/
noncomputable def rootOut (x : Int) : Out := if x < 0 then .err 5 else textOut (root x.natAbs)

theorem decVal_zeros : ∀ k, decVal (Lib.repeatL [48] k) = 0
  | 0 => rfl
  | k + 1 => by
    rw [Lib.repeatL, decVal_append, decVal_zeros k, show decVal [48] = 0 from rfl]
    simp
theorem zeros_dig : ∀ k, ∀ b ∈ Lib.repeatL [48] k, isDig b
  | 0, b, h => by cases h
  | k + 1, b, h => by
    rw [Lib.repeatL] at h
    rcases List.mem_append.1 h with h | h
    · obtain rfl := List.mem_singleton.1 h; exact ⟨by decide, by decide⟩
    · exact zeros_dig k b h
/-- The text of a power of 10. -/
theorem ten_text (k : Nat) : decVal ([49] ++ Lib.repeatL [48] k) = 10 ^ k ∧ ∀ b ∈ [49] ++ Lib.repeatL [48] k, isDig b := by
  refine ⟨?_, fun b h => ?_⟩
  · rw [decVal_append, decVal_zeros, Lib.repeatL_length]
    have : decVal [49] = 1 := rfl
    rw [this]; simp
  · rcases List.mem_append.1 h with h | h
    · obtain rfl := List.mem_singleton.1 h; exact ⟨by decide, by decide⟩
    · exact zeros_dig k b h
/-- The start lies above the root. -/
theorem root_start {n l : Nat} (h : n < 10 ^ l) : root n ≤ 10 ^ ((l + 1) / 2) := by
  rcases Nat.lt_or_ge (10 ^ ((l + 1) / 2)) (root n) with h1 | h1
  · exfalso
    have h2 := root_le n
    have h3 : 10 ^ ((l + 1) / 2) * 10 ^ ((l + 1) / 2) ≤ root n * root n := Nat.mul_le_mul (Nat.le_of_lt h1) (Nat.le_of_lt h1)
    rw [← Nat.pow_add] at h3
    have h4 : 10 ^ l ≤ 10 ^ ((l + 1) / 2 + (l + 1) / 2) := Nat.pow_le_pow_right (by decide) (by omega)
    omega
  · exact h1
theorem root_pos {n : Nat} (h : 0 < n) : 0 < root n := by
  have := root_lt n
  rcases Nat.eq_zero_or_pos (root n) with h0 | h0
  · rw [h0] at this; omega
  · exact h0
theorem dg_len_small {n : Nat} (h : n < 10 ^ 250) : (dg 1000000000 n).length ≤ 999999 := by
  refine Nat.le_trans ((dg_length_le (by decide) n 28).2 (Nat.lt_of_lt_of_le h ?_)) (by decide)
  rw [show (1000000000 : Nat) = 10 ^ 9 from rfl, ← Nat.pow_mul]
  exact Nat.pow_le_pow_right (by decide) (by decide)

set_option maxHeartbeats 1000000 in
theorem root1_neg (lv : Value) (x : Int) (w : World) (h : Whs w lv [x]) (hn : x < 0) :
    Calls Tryz.prog 71 #[lv] w fun e w' => e = (Out.err 5).end_ ∧ Below w.heap.size w w' := by
  obtain ⟨a, c, p, rfl, c0, c1, hd⟩ := h.first
  rw [decide_eq_true hn] at c0
  obtain ⟨A6, n6, c6, rfl⟩ := hd.form
  clear h hd hn
  go_enter Tryz.func71, Tryz.ntmps71
  go_wp2_with fail
  exact ⟨rfl, rfl, (by repeat (first | exact Below.refl _ _ | exact HB.out | (refine Below.alloc ?_ (by first | (simp; done) | (simp; omega)) _) | (refine Below.setCell ?_ (by first | (simp; done) | (simp; omega)) _) | refine Below.drew ?_ | refine below_drewN ?_ _))⟩

set_option maxHeartbeats 1000000 in
theorem root1_zero (lv : Value) (w : World) (h : Whs w lv [0]) :
    Calls Tryz.prog 71 #[lv] w fun e w' => e = (Out.ok (.string ⟨#[48]⟩)).end_ ∧ Below w.heap.size w w' := by
  obtain ⟨a, c, p, rfl, c0, c1, hd⟩ := h.first
  rw [decide_eq_false (by omega)] at c0
  obtain ⟨A6, c6, rfl, -, -, -⟩ := hd
  rw [show (0 : Int).natAbs = 0 from rfl, dg_zero] at c1
  simp only [List.length_nil] at c1
  clear h
  go_enter Tryz.func71, Tryz.ntmps71
  go_wp2_with fail
  go_ret
  exact ⟨rfl, (by repeat (first | exact Below.refl _ _ | exact HB.out | (refine Below.alloc ?_ (by first | (simp; done) | (simp; omega)) _) | (refine Below.setCell ?_ (by first | (simp; done) | (simp; omega)) _) | refine Below.drew ?_ | refine below_drewN ?_ _))⟩

set_option maxRecDepth 100000 in
set_option maxHeartbeats 2000000 in
theorem root1_pos (lv : Value) (x : Int) (w : World) (h : Whs w lv [x]) (ht : Tabs w) (hx : x.natAbs < 10 ^ 200) (hp : 0 < x) :
    Calls Tryz.prog 71 #[lv] w fun e w' => e = (textOut (root x.natAbs)).end_ ∧ Below w.heap.size w w' := by
  obtain ⟨a, c, p, rfl, c0, c1, hd⟩ := h.first
  rw [decide_eq_false (by omega)] at c0
  have HT := Lib.hid ht
  obtain ⟨N, hN⟩ : ∃ N, x.natAbs = N := ⟨_, rfl⟩
  have hN0 : 0 < N := by omega
  rw [hN] at hd hx ⊢
  have HD := Lib.hid hd
  have hl0 : 0 < (dg 1000000000 N).length := List.length_pos_iff.2 fun e => by have := (dg_eq_nil (by decide)).1 e; omega
  have HLN : Hid ((dg 1000000000 N).length ≤ 1000000) := Nat.le_trans (dg_len_small (Nat.lt_of_lt_of_le hx (Nat.pow_le_pow_right (by decide) (by decide)))) (by decide)
  obtain ⟨L, hL⟩ : ∃ L, (dg 1000000000 N).length = L := ⟨_, rfl⟩
  obtain ⟨A6, c6, hp6, -, -, -⟩ := hd
  rw [hL] at hp6 hl0
  subst hp6
  have hl1 : ((L : Int) == 0) = false := by simp; omega
  -- the decimal digits
  obtain ⟨S, hS⟩ : ∃ S : ByteArray, ⟨(Lib.decDigits N).toArray⟩ = S := ⟨_, rfl⟩
  have hss : S.size = (Lib.decDigits N).length := by rw [← hS]; simp [ByteArray.size]
  have hs200 : S.size ≤ 200 := by rw [hss]; exact (len200 N).2 hx
  have hs10 : N < 10 ^ S.size := by rw [hss, Lib.decDigits_length]; exact Lib.lt_pow_nDigits N
  have HS := Lib.hid hS
  obtain ⟨k, hk⟩ : ∃ k, (S.size + 1) / 2 = k := ⟨_, rfl⟩
  have hk2 : ((S.size : Int) + 1).tdiv 2 = (k : Int) := by rw [Int.tdiv_eq_ediv_of_nonneg (by omega), ← hk]; omega
  have hk100 : k ≤ 100 := by omega
  have HK := Lib.hid hk
  have HR0 : Hid (root N ≤ 10 ^ k) := by show _ ≤ _; rw [← hk]; exact root_start hs10
  have HX := Lib.hid hx
  have HRP := Lib.hid (root_pos hN0)
  obtain ⟨R, hR⟩ : ∃ R : ByteArray, ⟨(Lib.repeatL [48] k).toArray⟩ = R := ⟨_, rfl⟩
  obtain ⟨U, hU⟩ : ∃ U : ByteArray, (⟨#[49]⟩ : ByteArray) ++ R = U := ⟨_, rfl⟩
  have hUL : U.data.toList = [49] ++ Lib.repeatL [48] k := by rw [← hU, ← hR, ByteArray.data_append]; simp
  have hRs : R.size ≤ 100 := by rw [← hR, rep_size]; exact hk100
  have HR := Lib.hid hR
  have HU := Lib.hid hU
  have HUL := Lib.hid hUL
  clear h ht hS hss hs10 hx hN0 hp hN hk hU hUL hL hR
  go_enter Tryz.func71, Tryz.ntmps71
  go_wp2_with (first
    | (go_at_call 74; refine (string_c _ N _ HD.out HT.out HLN.out).mono ?_; rintro e W2 ⟨rfl, hbz⟩; rw [HS.out]; have HB2 := Lib.hid hbz; clear hbz)
    | (go_at_call 73; refine (Tryz.strings_Repeat ⟨#[48]⟩ k _ (by omega) (by show 1 * k ≤ _; omega)).mono ?_; rintro e W3 ⟨rfl, hbz⟩; rw [show (Lib.repeatL (ByteArray.mk #[48]).data.toList k) = Lib.repeatL [48] k from rfl, HR.out]; have HB3 := Lib.hid (below_then' HB2.out hbz); clear hbz)
    | (go_at_call 72; rw [HU.out]; refine (decimal_c U _ (by rw [HUL.out]; exact (ten_text k).2) (by rw [HUL.out, List.length_append, Lib.repeatL_length]; simp; omega)).mono ?_; rintro e W4 ⟨u, rfl, hu, -, hbz⟩; rw [HUL.out, (ten_text k).1] at hu; obtain ⟨A5, n5, c5, rfl⟩ := hu.form; have HU4 := Lib.hid hu; have HB4 := Lib.hid (below_then' HB3.out hbz); clear hu hbz))
  have HK100 := Lib.hid hk100
  clear HUL HU HR HS HB2 HB3 hk2 hs200 hk100
  go_loopg [4] (10 ^ k) (fun gk xv wr => ∃ X : Nat, gk = X ∧ Hid (Dg 1000000000 wr xv X ∧ root N ≤ X ∧ X ≤ 10 ^ k) ∧ Hid (Below w.heap.size w wr))
  case atStart => exact ⟨10 ^ k, rfl, ⟨HU4.out, HR0.out, Nat.le_refl _⟩, HB4.out⟩
  case round =>
    obtain ⟨X, hgk, HG, HB⟩ := hrel
    have HGK := Lib.hid hgk
    obtain ⟨A7, n7, c7, rfl⟩ := HG.out.1.form
    have hX0 : 0 < X := Nat.lt_of_lt_of_le HRP.out HG.out.2.1
    have hXk : X ≤ 10 ^ 100 := Nat.le_trans HG.out.2.2 (Nat.pow_le_pow_right (by decide) HK100.out)
    have hN250 : N < 10 ^ 200 := HX.out
    have HX0 := Lib.hid hX0
    have HLX : Hid ((dg 1000000000 X).length ≤ 999999) := dg_len_small (by omega)
    have HLS : Hid ((dg 1000000000 (X + N / X)).length ≤ 1000000) := Nat.le_trans (dg_len_small (by have := Nat.div_le_self N X; omega)) (by decide)
    have HL2 : Hid ((dg 1000000000 2).length ≤ 999999) := dg_len_small (by decide)
    have HLX1 : Hid ((dg 1000000000 X).length ≤ 1000000) := Nat.le_trans HLX.out (by decide)
    have HLQ : Hid ((dg 1000000000 (N / X)).length ≤ 1000000) := Nat.le_trans (dg_length_mono (by decide) (Nat.div_le_self _ _)) HLN.out
    have HNX : Hid (root N ≤ (X + N / X) / 2) := newton_ge (root_le N) hX0
    have HXX : Hid (textOut (X : Int) = .ok (.string ⟨(Lib.itoa (X : Int)).toArray⟩)) := if_pos (by rw [Int.natAbs_natCast]; omega)
    have HWX : Hid (Wh wr (.agg #[.bool false, .slice A7 n7 c7]) (X : Int)) := ⟨_, by rw [decide_eq_false (by omega)], HG.out.1⟩
    have HTW := Lib.hid (HT.out.below HB.out)
    have HDW := Lib.hid (HD.out.below HB.out)
    have HLXI : Hid ((dg 1000000000 (X : Int).natAbs).length ≤ 1000000) := by show _ ≤ _; rw [Int.natAbs_natCast]; exact HLX1.out
    obtain ⟨s, hs⟩ : ∃ s, sgn ((((X + N / X) / 2 : Nat) : Int) - X) = s := ⟨_, rfl⟩
    have HSG := Lib.hid hs
    by_cases hlt : (X + N / X) / 2 < X
    · have hs0 : ¬ 0 ≤ s := by rw [← hs, sgn_lt (by omega)]; decide
      have HLT := Lib.hid hlt
      clear hgk hX0 hXk hN250 hs hlt
      go_wp2_with (first | (go_at_call 75; refine (over_c _ _ (X + N / X) 2 _ (HQ3.out.below ((Below.refl _ _).alloc (Nat.le_refl _) _)) (dg_lit V3 2 _ (by decide) (by decide)) (by decide) HLS.out HL2.out).mono ?_; rintro e V4 ⟨q, r, rfl, hq, hr, -, -, hbz⟩; obtain ⟨A8, n8, c8, rfl⟩ := hq.form; obtain ⟨A9, n9, c9, rfl⟩ := hr.form; have HQ4 := Lib.hid hq; have HB4 := Lib.hid (below_then' (HB3.out.alloc HB3.out.size _) hbz); have HBX4 := Lib.hid (below_then' (HBX3.out.alloc HBX3.out.size _) hbz); clear hq hr hbz) | (go_at_call 75; refine (over_c _ _ N X _ HDW.out HG.out.1 HX0.out HLN.out HLX.out).mono ?_; rintro e V2 ⟨q, r, rfl, hq, hr, -, -, hbz⟩; obtain ⟨A8, n8, c8, rfl⟩ := hq.form; obtain ⟨A9, n9, c9, rfl⟩ := hr.form; have HQ2 := Lib.hid hq; have HB2 := Lib.hid (below_then' HB.out hbz); have HBX2 := Lib.hid hbz; clear hq hr hbz) | (go_at_call 76; refine (plus_c _ _ X (N / X) _ (HG.out.1.below HBX2.out) HQ2.out HLX1.out HLQ.out).mono ?_; rintro e V3 ⟨q, rfl, hq, -, hbz⟩; obtain ⟨A8, n8, c8, rfl⟩ := hq.form; have HQ3 := Lib.hid hq; have HB3 := Lib.hid (below_then' HB2.out hbz); have HBX3 := Lib.hid (below_then' HBX2.out hbz); clear hq hbz) | (go_at_call 77; refine (compare_c _ _ ((X + N / X) / 2) X _ HQ4.out (HG.out.1.below HBX4.out)).mono ?_; rintro e V5 ⟨he, hbz⟩; rw [HSG.out] at he; subst he; have HNX2 := Lib.hid (HQ4.out.below hbz); have HB5 := Lib.hid (below_then' HB4.out hbz); have HB6 := Lib.hid (below_then' HBX4.out hbz); clear hbz))
      go_roundg ((X + N / X) / 2)
      case measure => have h1 := HGK.out; have h2 := HLT.out; omega
      case rel => exact ⟨_, rfl, ⟨HNX2.out, HNX.out, Nat.le_trans (Nat.le_of_lt HLT.out) HG.out.2.2⟩, HB5.out⟩
    · have hs0 : 0 ≤ s := by
        rw [← hs]
        rcases Nat.eq_or_lt_of_le (Nat.not_lt.1 hlt) with h | h
        · rw [← h, Int.sub_self]; decide
        · rw [sgn_gt (by omega)]; decide
      have HE : Hid (root N = X) := (newton_done (root_lt N) hX0 HG.out.2.1 (Nat.not_lt.1 hlt)).symm
      clear hgk hX0 hXk hN250 hs hlt
      go_wp2_with (first
        | (go_at_call 75; refine (over_c _ _ (X + N / X) 2 _ (HQ3.out.below ((Below.refl _ _).alloc (Nat.le_refl _) _)) (dg_lit V3 2 _ (by decide) (by decide)) (by decide) HLS.out HL2.out).mono ?_; rintro e V4 ⟨q, r, rfl, hq, hr, -, -, hbz⟩; obtain ⟨A8, n8, c8, rfl⟩ := hq.form; obtain ⟨A9, n9, c9, rfl⟩ := hr.form; have HQ4 := Lib.hid hq; have HB4 := Lib.hid (below_then' (HB3.out.alloc HB3.out.size _) hbz); have HBX4 := Lib.hid (below_then' (HBX3.out.alloc HBX3.out.size _) hbz); clear hq hr hbz)
        | (go_at_call 75; refine (over_c _ _ N X _ HDW.out HG.out.1 HX0.out HLN.out HLX.out).mono ?_; rintro e V2 ⟨q, r, rfl, hq, hr, -, -, hbz⟩; obtain ⟨A8, n8, c8, rfl⟩ := hq.form; obtain ⟨A9, n9, c9, rfl⟩ := hr.form; have HQ2 := Lib.hid hq; have HB2 := Lib.hid (below_then' HB.out hbz); have HBX2 := Lib.hid hbz; clear hq hr hbz)
        | (go_at_call 76; refine (plus_c _ _ X (N / X) _ (HG.out.1.below HBX2.out) HQ2.out HLX1.out HLQ.out).mono ?_; rintro e V3 ⟨q, rfl, hq, -, hbz⟩; obtain ⟨A8, n8, c8, rfl⟩ := hq.form; have HQ3 := Lib.hid hq; have HB3 := Lib.hid (below_then' HB2.out hbz); have HBX3 := Lib.hid (below_then' HBX2.out hbz); clear hq hbz)
        | (go_at_call 77; refine (compare_c _ _ ((X + N / X) / 2) X _ HQ4.out (HG.out.1.below HBX4.out)).mono ?_; rintro e V5 ⟨he, hbz⟩; rw [HSG.out] at he; subst he; have HNX2 := Lib.hid (HQ4.out.below hbz); have HB5 := Lib.hid (below_then' HB4.out hbz); have HB6 := Lib.hid (below_then' HBX4.out hbz); clear hbz)
        | (go_at_call 58; refine (text_out _ (X : Int) _ (HWX.out.below HB6.out) (HTW.out.below HB6.out) HLXI.out).mono ?_; rw [HXX.out]; rintro e W7 ⟨he, hbz⟩; have he2 : e = .returned (.string ⟨(Lib.itoa (X : Int)).toArray⟩) := he; subst he2; have HB7 := Lib.hid (below_then' HB5.out hbz); clear he hbz))
      go_ret
      exact ⟨by rw [HE.out, HXX.out]; rfl, HB7.out⟩

theorem root1_c (lv : Value) (x : Int) (w : World) (h : Whs w lv [x]) (ht : Tabs w) (hx : x.natAbs < 10 ^ 200) :
    Calls Tryz.prog 71 #[lv] w fun e w' => e = (rootOut x).end_ ∧ Below w.heap.size w w' := by
  rcases Int.lt_trichotomy x 0 with hn | hn | hn
  · rw [show rootOut x = .err 5 from if_pos hn]; exact root1_neg lv x w h hn
  · subst hn
    rw [show rootOut 0 = .ok (.string ⟨#[48]⟩) from by
      unfold rootOut textOut
      have h0 : root (0 : Int).natAbs = 0 := root_eq (by decide) (by decide)
      rw [if_neg (by decide), h0, if_pos (by decide), show Lib.itoa ((0 : Nat) : Int) = [48] from by rw [Lib.itoa, if_neg (by decide)]; exact decDigits_zero]]
    exact root1_zero lv w h
  · rw [show rootOut x = textOut (root x.natAbs) from if_neg (by omega)]
    exact root1_pos lv x w h ht hx hn

set_option maxHeartbeats 1000000 in
theorem numRoot_c (S : ByteArray) (w : World) (ht : Tabs w) : Calls Tryz.prog 33 #[.string S] w (Un S rootOut (.string ⟨#[]⟩) w) := by
  have HT := Lib.hid ht
  clear ht
  go_enter Tryz.func33, Tryz.ntmps33
  go_wp2_with (go_at_call 55; refine (withStr_c 71 #[] (enters_of Tryz.func71 (by kernel_rfl) rfl) _ [S] (fun zs => rootOut (zs.headD 0)) _ (strs_one w S _) (by simp) ?hf).mono ?_)
  case hf =>
    intro zs hz W lv hb hw
    obtain ⟨x, rfl, hx⟩ := one_zs hz
    exact root1_c lv x W hw (HT.out.below (Below.trans ((Below.refl w.heap.size w).alloc (Nat.le_refl _) _) (hb.mono (by simp)))) hx.2
  rintro e w' h
  obtain ⟨a, b, rfl, hr⟩ := with_one (f := rootOut) h ((Below.refl w.heap.size w).alloc (Nat.le_refl _) _)
  have HR := Lib.hid hr
  clear h hr
  go_wp2
  go_ret2
  exact HR.out

end Go.Proofs.YtbjgpbdkofadiaaGreatDoor
