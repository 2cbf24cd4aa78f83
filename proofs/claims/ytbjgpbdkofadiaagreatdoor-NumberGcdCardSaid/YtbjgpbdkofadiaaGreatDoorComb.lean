/- The greatest common divisor of magnitudes, with a factor. -/
import Derived.Test.YtbjgpbdkofadiaaGreatDoorPow
namespace Go.Proofs.YtbjgpbdkofadiaaGreatDoor
set_option linter.unusedVariables false
set_option linter.unusedSimpArgs false
open Go.RowKit Go.Shelf Go.Proofs

/-- What combined returns. -/
def CombP (a0 b0 : Nat) (w : World) (e : Ending) (w' : World) : Prop := ∃ u v x, e = .returned (.tuple #[u, v]) ∧ Dg 1000000000 w' u (Nat.gcd a0 b0) ∧ Wh w' v x ∧ (∃ s : Int, x * (a0 : Int) + s * (b0 : Int) = (Nat.gcd a0 b0 : Int)) ∧ x.natAbs ≤ b0 + 1 ∧ Below w.heap.size w w'

/-- A value that does not lie in two blocks (or is empty). -/
def Safe2 (B n : Nat) (p : Value) : Prop := n = 0 ∨ ∀ g, p.ownBlock = some g → g ≠ B + 2 ∧ g ≠ B + 3
def SafeR (B n : Nat) (p : Value) : Prop := n = 0 ∨ ∀ g, p.ownBlock = some g → g ≠ B
def Safe (B n : Nat) (p : Value) : Prop := Safe2 B n p ∧ SafeR B n p
theorem safe_mk {B n : Nat} {p : Value} (h : n ≠ 0 → ∀ g, p.ownBlock = some g → g < B ∨ B + 4 ≤ g ∨ g = B + 1) : Safe B n p := by
  by_cases h0 : n = 0
  · exact ⟨.inl h0, .inl h0⟩
  · exact ⟨.inr fun g hg => by have := h h0 g hg; omega, .inr fun g hg => by have := h h0 g hg; omega⟩

theorem Dg.safe_set {w : World} {B n : Nat} {p : Value} (h : Dg 1000000000 w p n) (hs : Safe2 B n p) {k i : Nat} (hk : k = B + 2 ∨ k = B + 3) (v : Value) : Dg 1000000000 (w.setCell ⟨k, i, none⟩ v) p n := by
  rcases hs with h0 | hs
  · subst h0; exact dg_any h
  · exact h.same fun g hg => Below.heap_setCell _ _ _ _ (by have := hs g hg; simp; omega)

theorem Dg.safe_setR {w : World} {B n i : Nat} {p : Value} (h : Dg 1000000000 w p n) (hs : SafeR B n p) (v : Value) : Dg 1000000000 (w.setCell ⟨B, i, none⟩ v) p n := by
  rcases hs with h0 | hs
  · subst h0; exact dg_any h
  · exact h.same fun g hg => Below.heap_setCell _ _ _ _ (by have := hs g hg; simp; omega)

set_option maxRecDepth 100000 in
set_option maxHeartbeats 16000000 in
theorem combined_c (v1 v2 : Value) (a0 b0 : Nat) (w : World) (h1 : Dg 1000000000 w v1 a0) (h2 : Dg 1000000000 w v2 b0) (ha : a0 < 10 ^ 200) (hb : b0 < 10 ^ 200) :
    Calls Tryz.prog 111 #[v1, v2] w (CombP a0 b0 w) := by
  have H1 := Lib.hid h1
  have H2 := Lib.hid h2
  have HA := Lib.hid ha
  have HB0 := Lib.hid hb
  obtain ⟨A1, n1, c1, rfl⟩ := h1.form
  obtain ⟨A2, n2, c2, rfl⟩ := h2.form
  clear h1 h2 ha hb
  go_enter Tryz.func111, Tryz.ntmps111
  go_wp2_with fail
  obtain ⟨W, hW, k0, k1, k2, k3, f0, f1, f2, f3, hbel, hsz⟩ := boxes4 w #[.bool false, .slice none 0 0] #[.int .i64 1] #[.bool false, .slice (some ⟨w.heap.size + 1, 0, none⟩) 1 1] #[.bool false, .slice none 0 0] 72 3 72 72
  rw [hW]
  have c00 := k0 0; have c01 := k0 1; have c20 := k2 0; have c21 := k2 1; have c30 := k3 0; have c31 := k3 1
  have g00 := f0 0; have g01 := f0 1; have g20 := f2 0; have g21 := f2 1; have g30 := f3 0; have g31 := f3 1
  simp at c00 c01 c20 c21 c30 c31
  have hone : Dg 1000000000 W (.slice (some ⟨w.heap.size + 1, 0, none⟩) 1 1) 1 := by
    unfold Dg
    rw [dg_one]
    refine ⟨_, _, rfl, by simp, by omega, fun j hj => ?_⟩
    obtain rfl : j = 0 := by simpa using hj
    exact ⟨_, rfl, by rw [addr_zero]; exact k1 0⟩
  have HONE := Lib.hid hone
  have HBEL := Lib.hid hbel
  have HSZ : Hid (W.heap.size = w.heap.size + 4) := hsz
  clear k0 k1 k2 k3 f0 f1 f2 f3 hW hbel hsz hone
  go_loopg [0, 1] b0 (fun gk av bv wr => ∃ (a b : Nat) (one zero : Int) (bo bz : Bool) (p q : Value), gk = b ∧ Hid (Dg 1000000000 wr av a ∧ Dg 1000000000 wr bv b ∧ Dg 1000000000 wr p one.natAbs ∧ Dg 1000000000 wr q zero.natAbs) ∧ Hid (Safe w.heap.size a av ∧ Safe w.heap.size b bv ∧ Safe w.heap.size one.natAbs p ∧ Safe w.heap.size zero.natAbs q) ∧ Hid (Eu a0 b0 a b one zero ∧ zero.natAbs ≤ b0 + 1 ∧ bo = decide (one < 0) ∧ bz = decide (zero < 0)) ∧ wr.cell? ⟨w.heap.size + 1 + 1, 0, none⟩ = some (.bool bo) ∧ wr.cell? ⟨w.heap.size + 1 + 1, 1, none⟩ = some p ∧ wr.cell? ⟨w.heap.size + 1 + 1 + 1, 0, none⟩ = some (.bool bz) ∧ wr.cell? ⟨w.heap.size + 1 + 1 + 1, 1, none⟩ = some q ∧ Hid (wr.frozen? ⟨w.heap.size + 1 + 1, 0, none⟩ = false ∧ wr.frozen? ⟨w.heap.size + 1 + 1, 1, none⟩ = false ∧ wr.frozen? ⟨w.heap.size + 1 + 1 + 1, 0, none⟩ = false ∧ wr.frozen? ⟨w.heap.size + 1 + 1 + 1, 1, none⟩ = false) ∧ Hid (wr.cell? ⟨w.heap.size, 0, none⟩ = some (.bool false) ∧ wr.cell? ⟨w.heap.size, 1, none⟩ = some (.slice none 0 0) ∧ wr.frozen? ⟨w.heap.size, 0, none⟩ = false ∧ wr.frozen? ⟨w.heap.size, 1, none⟩ = false) ∧ Hid (Below w.heap.size w wr ∧ w.heap.size + 4 ≤ wr.heap.size))
  case atStart =>
    have hs1 : Safe w.heap.size a0 (.slice A1 n1 c1) := safe_mk fun h0 g hg => .inl (dg_block (by decide) H1.out h0 hg)
    have hs2 : Safe w.heap.size b0 (.slice A2 n2 c2) := safe_mk fun h0 g hg => .inl (dg_block (by decide) H2.out h0 hg)
    exact ⟨a0, b0, 1, 0, false, false, _, _, rfl, ⟨H1.out.below HBEL.out.to, H2.out.below HBEL.out.to, HONE.out, Dg.zero (by decide) _⟩, ⟨hs1, hs2, safe_mk fun _ g hg => (by simp [Value.ownBlock] at hg; omega), safe_mk fun h0 => absurd rfl h0⟩, ⟨Eu.start a0 b0, by simp, by simp, by simp⟩, c20, c21, c30, c31, ⟨g20, g21, g30, g31⟩, ⟨c00, c01, g00, g01⟩, ⟨HBEL.out.to, by have := HSZ.out; omega⟩⟩
  case round =>
    obtain ⟨a, b, one, zero, bo, bz, p, q, hgk, HD, HS, HE, e20, e21, e30, e31, HF, HR, HB⟩ := hrel
    have HGK := Lib.hid hgk
    obtain ⟨A3, c3, hv3, -, -, -⟩ := HD.out.2.1
    obtain ⟨Lb, hLb⟩ : ∃ Lb, (dg 1000000000 b).length = Lb := ⟨_, rfl⟩
    rw [hLb] at hv3
    subst hv3
    obtain ⟨A4, n4, c4, rfl⟩ := HD.out.1.form
    obtain ⟨A5, n5, c5, rfl⟩ := HD.out.2.2.1.form
    obtain ⟨A6, n6, c6, rfl⟩ := HD.out.2.2.2.form
    clear c00 c01 c20 c21 c30 c31 g00 g01 g20 g21 g30 g31 hgk
    by_cases hb0 : b = 0
    · have hz : Lb = 0 := by have := hLb; rw [hb0, dg_zero] at this; exact this.symm
      subst hz
      have HB00 := Lib.hid hb0
      clear hLb hb0
      obtain ⟨r0, r1, s0, s1⟩ := HR.out
      go_wp2_with fail
      go_region
      all_goals
        go_wp2
        obtain ⟨F, hF, x0, x1, hfar, hfz, hbf, hwf, hsf⟩ := two_set wr w.heap.size (.bool bo) (.slice A5 n5 c5) r0 r1
        rw [hF]
        have y0 : F.drew.cell? ⟨w.heap.size, 0, none⟩ = some (.bool bo) := x0
        have y1 : F.drew.cell? ⟨w.heap.size, 1, none⟩ = some (.slice A5 n5 c5) := x1
        refine bodyPost_ret (v := .tuple #[.slice A4 n4 c4, .agg #[.bool bo, .slice A5 n5 c5]]) (by simp [results, Tryz.results111, go_sem, y0, y1]) rfl ?_
        obtain ⟨hE, hz1, ho1, ho2⟩ := HE.out
        have hbb : Below w.heap.size w F.drew := (hbf _ _ (Nat.le_refl _) HB.out.1).drew
        have hb0 := HB00.out
        subst hb0
        have hg : Nat.gcd a0 b0 = a := by rw [← hE.gcd, Nat.gcd_zero_right]
        have hsafe : ∀ (n : Nat) (v : Value), Dg 1000000000 wr v n → SafeR w.heap.size n v → Dg 1000000000 F.drew v n := fun n v hd hs => by
          rw [← hF]
          exact (Dg.safe_setR (Dg.safe_setR hd hs _) hs _).drew
        refine ⟨_, _, one, rfl, ?_, ⟨_, by rw [ho1], ?_⟩, ?_, hE.one_, hbb⟩
        · rw [hg]; exact hsafe _ _ HD.out.1 HS.out.1.2
        · exact hsafe _ _ HD.out.2.2.1 HS.out.2.2.1.2
        · rw [hg]; exact hE.fa
    · have hz : 0 < Lb := by rw [← hLb]; exact List.length_pos_iff.2 fun e => by have := (dg_eq_nil (by decide)).1 e; omega
      have hbp : 0 < b := by omega
      have HBP := Lib.hid hbp
      have ha201 : a < 10 ^ 201 := by have := HE.out.1.az; have h1 := HA.out; have h2 := HB0.out; omega
      have hb201 : b < 10 ^ 201 := by have := HE.out.1.bz; have h1 := HA.out; have h2 := HB0.out; omega
      have HLA : Hid ((dg 1000000000 a).length ≤ 1000000) := Nat.le_trans (dg_len_small (by omega)) (by decide)
      have HLB : Hid ((dg 1000000000 b).length ≤ 999999) := dg_len_small (by omega)
      have HLZ : Hid ((dg 1000000000 zero.natAbs).length ≤ 1000000) := Nat.le_trans (dg_len_small (by have := HE.out.2.1; have h2 := HB0.out; omega)) (by decide)
      have HLQ : Hid ((dg 1000000000 ((a / b : Nat) : Int).natAbs).length ≤ 1000000) := by show _ ≤ _; rw [Int.natAbs_natCast]; exact Nat.le_trans (dg_len_small (by have := Nat.div_le_self a b; omega)) (by decide)
      have HLO : Hid ((dg 1000000000 one.natAbs).length ≤ 1000000) := Nat.le_trans (dg_len_small (by have := HE.out.1.one_; have h2 := HB0.out; omega)) (by decide)
      have HLN : Hid ((dg 1000000000 (-(zero * ((a / b : Nat) : Int))).natAbs).length ≤ 1000000) := by show _ ≤ _; rw [Int.natAbs_neg]; exact Nat.le_trans (dg_len_small (by have := HE.out.1.prod_le hbp; have h2 := HB0.out; omega)) (by decide)
      clear hLb hb0 hbp ha201 hb201
      go_wp2_with (go_at_call 75; refine (over_c _ _ a b _ HD.out.1 HD.out.2.1 HBP.out HLA.out HLB.out).mono ?_; rintro e V ⟨uq, ur, rfl, hq, hr, -, hfr, hbz⟩; obtain ⟨A7, n7, c7, rfl⟩ := hq.form; obtain ⟨A8, n8, c8, rfl⟩ := hr.form; have HQ := Lib.hid hq; have HRR := Lib.hid hr; have HFR := Lib.hid hfr; have HBV := Lib.hid hbz; have HVC := Lib.hid (And.intro (And.intro (keep_cell hbz e20) (keep_free' hbz e20 HF.out.1)) (And.intro (And.intro (keep_cell hbz e21) (keep_free' hbz e21 HF.out.2.1)) (And.intro (And.intro (keep_cell hbz e30) (keep_free' hbz e30 HF.out.2.2.1)) (And.intro (keep_cell hbz e31) (keep_free' hbz e31 HF.out.2.2.2))))); have e20 := keep_cell hbz e20; have e21 := keep_cell hbz e21; have e30 := keep_cell hbz e30; have e31 := keep_cell hbz e31; clear hq hr hfr hbz)
      have HWZ : Hid (Wh V.drew (.agg #[.bool bz, .slice A6 n6 c6]) zero) := ⟨_, by rw [← HE.out.2.2.2], (HD.out.2.2.2.below HBV.out).drew⟩
      have HWQ : Hid (Wh V.drew (.agg #[.bool false, .slice A7 n7 c7]) ((a / b : Nat) : Int)) := ⟨_, by rw [decide_eq_false (Int.not_lt.2 (Int.natCast_nonneg _))], by rw [Int.natAbs_natCast]; exact HQ.out.drew⟩
      have HWO : Hid (∀ W', Below V.heap.size V W' → Wh W' (.agg #[.bool bo, .slice A5 n5 c5]) one) := fun W' hW' => ⟨_, by rw [← HE.out.2.2.1], (HD.out.2.2.1.below HBV.out).below hW'⟩
      have d20 : V.drew.cell? ⟨w.heap.size + 1 + 1, 0, none⟩ = some (.bool bo) := e20
      have d21 : V.drew.cell? ⟨w.heap.size + 1 + 1, 1, none⟩ = some (.slice A5 n5 c5) := e21
      have d30 : V.drew.cell? ⟨w.heap.size + 1 + 1 + 1, 0, none⟩ = some (.bool bz) := e30
      have d31 : V.drew.cell? ⟨w.heap.size + 1 + 1 + 1, 1, none⟩ = some (.slice A6 n6 c6) := e31
      go_region_with (first
        | (go_at_call 92; refine (add_c _ _ one (-(zero * ((a / b : Nat) : Int))) _ (HWO.out _ HB4.out) HNG.out.wh HLO.out HLN.out).mono ?_; rintro e W5 ⟨u, rfl, hu, hbz⟩; obtain ⟨b9, A9, n9, c9, rfl, hb9, -⟩ := hu.form; have HAD := Lib.hid hu; have HB5 := Lib.hid (below_then' HB4.out hbz); have e20 := keep_cell hbz e20; have e21 := keep_cell hbz e21; have e30 := keep_cell hbz e30; have e31 := keep_cell hbz e31; have f20 := keep_free' HB5.out HVC.out.1.1 HVC.out.1.2; have f21 := keep_free' HB5.out HVC.out.2.1.1 HVC.out.2.1.2; have f30 := keep_free' HB5.out HVC.out.2.2.1.1 HVC.out.2.2.1.2; have f31 := keep_free' HB5.out HVC.out.2.2.2.1 HVC.out.2.2.2.2; have HB9 := Lib.hid hb9; have HSZ5 := Lib.hid (Nat.le_trans HB4.out.size hbz.size); have HSZ4 := Lib.hid HB4.out.size; clear hu hbz hb9)
        | (go_at_call 94; refine (negN_c 0 _ (zero * ((a / b : Nat) : Int)) _ HML.out.wh.zero).mono ?_; rintro e W4 ⟨u, rfl, hu, hbz⟩; obtain ⟨b8, A8', n8', c8', rfl, -, -⟩ := hu.form; have HNG := Lib.hid hu; have HB4 := Lib.hid (below_then' HB3.out hbz); have e20 := keep_cell hbz e20; have e21 := keep_cell hbz e21; have e30 := keep_cell hbz e30; have e31 := keep_cell hbz e31; clear hu hbz)
        | (go_at_call 57; refine (mulN_c _ _ zero ((a / b : Nat) : Int) _ HWZ.out HWQ.out HLZ.out HLQ.out).mono ?_; rintro e W3 ⟨u, rfl, hu, hbz⟩; obtain ⟨b7, A7', n7', c7', rfl, -, -⟩ := hu.form; have HML := Lib.hid hu; have HB3 : Hid (Below V.heap.size V W3) := ((Below.refl _ V).drew).trans hbz; have e20 := keep_cell hbz d20; have e21 := keep_cell hbz d21; have e30 := keep_cell hbz d30; have e31 := keep_cell hbz d31; clear hu hbz))
      all_goals
        obtain ⟨F1, hF1, x0, x1, hfar, hfz, hbf, hwf, hsf⟩ := two_set W5 (w.heap.size + 1 + 1) (.bool bz) (.slice A6 n6 c6) e20 e21
        obtain ⟨F2, hF2, y0, y1, hfar2, hfz2, hbf2, hwf2, hsf2⟩ := two_set F1 (w.heap.size + 1 + 1 + 1) (.bool b9) (.slice A9 n9 c9) (hfar _ _ (by simp) e30) (hfar _ _ (by simp) e31)
        rw [hF1, hF2]
        go_wp2
        go_roundg (a % b)
        case measure => have h1 := HGK.out; rw [h1]; exact Nat.mod_lt a HBP.out
        case rel =>
          have hw4 := HB.out.2
          have hv4 : w.heap.size + 4 ≤ V.heap.size := Nat.le_trans hw4 HBV.out.size
          have hbV5 := HB5.out
          have hbw : Below w.heap.size w F2 := hbf2 _ _ (by omega) (hbf _ _ (by omega) (below_then' (below_then' HB.out.1 HBV.out) hbV5))
          have hdg : ∀ (n : Nat) (v : Value), Dg 1000000000 W5 v n → Safe w.heap.size n v → Dg 1000000000 F2 v n := fun n v hd hs => by
            rw [← hF2, ← hF1]
            exact Dg.safe_set (Dg.safe_set (Dg.safe_set (Dg.safe_set hd hs.1 (.inl rfl) _) hs.1 (.inl rfl) _) hs.1 (.inr rfl) _) hs.1 (.inr rfl) _
          have hsum := HAD.out
          obtain ⟨t1, t2, t3⟩ := hsum.parts
          have hs4 : w.heap.size + 4 ≤ W4.heap.size := Nat.le_trans hv4 HSZ4.out
          refine ⟨b, a % b, zero, one + -(zero * ((a / b : Nat) : Int)), bz, b9, .slice A6 n6 c6, .slice A9 n9 c9, rfl, ⟨?_, ?_, ?_, ?_⟩, ⟨HS.out.2.1, ?_, HS.out.2.2.2, ?_⟩, ⟨HE.out.1.step HBP.out HE.out.2.1, ?_, HE.out.2.2.2, HB9.out⟩, hfar2 _ _ (by simp) x0, hfar2 _ _ (by simp) x1, y0, y1, ⟨?_, ?_, ?_, ?_⟩, ⟨?_, ?_, ?_, ?_⟩, ⟨hbw, ?_⟩⟩
          · exact hdg _ _ ((HD.out.2.1.below HBV.out).below hbV5) HS.out.2.1
          · exact hdg _ _ (HRR.out.below hbV5) (safe_mk fun _ g hg => .inr (.inl (Nat.le_trans hw4 (HFR.out g hg))))
          · exact hdg _ _ ((HD.out.2.2.2.below HBV.out).below hbV5) HS.out.2.2.2
          · exact hdg _ _ t1 (safe_mk fun _ g hg => .inr (.inl (Nat.le_trans hs4 (t2 g hg))))
          · exact safe_mk fun _ g hg => .inr (.inl (Nat.le_trans hw4 (HFR.out g hg)))
          · exact safe_mk fun _ g hg => .inr (.inl (Nat.le_trans hs4 (t2 g hg)))
          · have := HE.out.1.next_le HBP.out
            have h2 : (one + -(zero * ((a / b : Nat) : Int))).natAbs * 1 ≤ (one + -(zero * ((a / b : Nat) : Int))).natAbs * b := Nat.mul_le_mul_left _ HBP.out
            omega
          · exact (hfz2 _).trans ((hfz _).trans f20)
          · exact (hfz2 _).trans ((hfz _).trans f21)
          · exact (hfz2 _).trans ((hfz _).trans f30)
          · exact (hfz2 _).trans ((hfz _).trans f31)
          · exact hfar2 _ _ (by simp; omega) (hfar _ _ (by simp; omega) (keep_cell hbV5 (keep_cell HBV.out HR.out.1)))
          · exact hfar2 _ _ (by simp; omega) (hfar _ _ (by simp; omega) (keep_cell hbV5 (keep_cell HBV.out HR.out.2.1)))
          · exact (hfz2 _).trans ((hfz _).trans (keep_free' hbV5 (keep_cell HBV.out HR.out.1) (keep_free' HBV.out HR.out.1 HR.out.2.2.1)))
          · exact (hfz2 _).trans ((hfz _).trans (keep_free' hbV5 (keep_cell HBV.out HR.out.2.1) (keep_free' HBV.out HR.out.2.1 HR.out.2.2.2)))
          · rw [hsf2, hsf]; exact Nat.le_trans hv4 hbV5.size

end Go.Proofs.YtbjgpbdkofadiaaGreatDoor
