/- Divisions; what sanity looks at but for Gcd. -/
import Derived.Deep.CutRange
import Derived.Test.YtbjgpbdkofadiaaGreatDoorM4
import Derived.Test.YtbjgpbdkofadiaaGreatDoorM3
import Derived.Test.YtbjgpbdkofadiaaGreatDoorM2
namespace Go.Proofs.YtbjgpbdkofadiaaGreatDoor
set_option linter.unusedVariables false
set_option linter.unusedSimpArgs false
open Go.RowKit Go.Shelf Go.Proofs

/-- What combined returns. -/
def CombP (a0 b0 : Nat) (w : World) (e : Ending) (w' : World) : Prop := ∃ u v x, e = .returned (.tuple #[u, v]) ∧ Dg 1000000000 w' u (Nat.gcd a0 b0) ∧ Wh w' v x ∧ (∃ s : Int, x * (a0 : Int) + s * (b0 : Int) = (Nat.gcd a0 b0 : Int)) ∧ x.natAbs ≤ b0 + 1 ∧ Below w.heap.size w w'

/-- A value that does not lie in two blocks (or is empty). -/
def Safe2 (B n : Nat) (p : Value) : Prop := n = 0 ∨ ∀ g, p.ownBlock = some g → g ≠ B + 2 ∧ g ≠ B + 3
def SafeR (B n : Nat) (p : Value) : Prop := n = 0 ∨ ∀ g, p.ownBlock = some g → g ≠ B
def Safe (B n : Nat) (p : Value) : Prop := Safe2 B n p ∧ SafeR B n p
theorem safe_mk {B n : Nat} {p : Value} (h : n ≠ 0 → ∀ g, p.ownBlock = some g → g < B ∨ B + 4 ≤ g ∨ g = B + 1) : Safe B n p := by
  by_cases h0 : n = 0
  · exact ⟨.inl h0, .inl h0⟩
  · exact ⟨.inr fun g hg => by have := h h0 g hg; omega, .inr fun g hg => by have := h h0 g hg; omega⟩

theorem Dg.safe_set {w : World} {B n : Nat} {p : Value} (h : Dg 1000000000 w p n) (hs : Safe2 B n p) {k i : Nat} (hk : k = B + 2 ∨ k = B + 3) (v : Value) : Dg 1000000000 (w.setCell ⟨k, i, none⟩ v) p n := by
  rcases hs with h0 | hs
  · subst h0; exact dg_any h
  · exact h.same fun g hg => Below.heap_setCell _ _ _ _ (by have := hs g hg; simp; omega)

theorem Dg.safe_setR {w : World} {B n i : Nat} {p : Value} (h : Dg 1000000000 w p n) (hs : SafeR B n p) (v : Value) : Dg 1000000000 (w.setCell ⟨B, i, none⟩ v) p n := by
  rcases hs with h0 | hs
  · subst h0; exact dg_any h
  · exact h.same fun g hg => Below.heap_setCell _ _ _ _ (by have := hs g hg; simp; omega)

set_option maxRecDepth 100000 in
set_option maxHeartbeats 16000000 in
theorem combined_c (v1 v2 : Value) (a0 b0 : Nat) (w : World) (h1 : Dg 1000000000 w v1 a0) (h2 : Dg 1000000000 w v2 b0) (ha : a0 < 10 ^ 200) (hb : b0 < 10 ^ 200) :
    Calls Tryz.prog 111 #[v1, v2] w (CombP a0 b0 w) := by
  have H1 := Lib.hid h1
  have H2 := Lib.hid h2
  have HA := Lib.hid ha
  have HB0 := Lib.hid hb
  obtain ⟨A1, n1, c1, rfl⟩ := h1.form
  obtain ⟨A2, n2, c2, rfl⟩ := h2.form
  clear h1 h2 ha hb
  go_enter Tryz.func111, Tryz.ntmps111
  go_wp2_with fail
  obtain ⟨W, hW, k0, k1, k2, k3, f0, f1, f2, f3, hbel, hsz⟩ := boxes4 w #[.bool false, .slice none 0 0] #[.int .i64 1] #[.bool false, .slice (some ⟨w.heap.size + 1, 0, none⟩) 1 1] #[.bool false, .slice none 0 0] 72 3 72 72
  rw [hW]
  have c00 := k0 0; have c01 := k0 1; have c20 := k2 0; have c21 := k2 1; have c30 := k3 0; have c31 := k3 1
  have g00 := f0 0; have g01 := f0 1; have g20 := f2 0; have g21 := f2 1; have g30 := f3 0; have g31 := f3 1
  simp at c00 c01 c20 c21 c30 c31
  have hone : Dg 1000000000 W (.slice (some ⟨w.heap.size + 1, 0, none⟩) 1 1) 1 := by
    unfold Dg
    rw [dg_one]
    refine ⟨_, _, rfl, by simp, by omega, fun j hj => ?_⟩
    obtain rfl : j = 0 := by simpa using hj
    exact ⟨_, rfl, by rw [addr_zero]; exact k1 0⟩
  have HONE := Lib.hid hone
  have HBEL := Lib.hid hbel
  have HSZ : Hid (W.heap.size = w.heap.size + 4) := hsz
  clear k0 k1 k2 k3 f0 f1 f2 f3 hW hbel hsz hone
  go_loopg [0, 1] b0 (fun gk av bv wr => ∃ (a b : Nat) (one zero : Int) (bo bz : Bool) (p q : Value), gk = b ∧ Hid (Dg 1000000000 wr av a ∧ Dg 1000000000 wr bv b ∧ Dg 1000000000 wr p one.natAbs ∧ Dg 1000000000 wr q zero.natAbs) ∧ Hid (Safe w.heap.size a av ∧ Safe w.heap.size b bv ∧ Safe w.heap.size one.natAbs p ∧ Safe w.heap.size zero.natAbs q) ∧ Hid (Eu a0 b0 a b one zero ∧ zero.natAbs ≤ b0 + 1 ∧ bo = decide (one < 0) ∧ bz = decide (zero < 0)) ∧ wr.cell? ⟨w.heap.size + 1 + 1, 0, none⟩ = some (.bool bo) ∧ wr.cell? ⟨w.heap.size + 1 + 1, 1, none⟩ = some p ∧ wr.cell? ⟨w.heap.size + 1 + 1 + 1, 0, none⟩ = some (.bool bz) ∧ wr.cell? ⟨w.heap.size + 1 + 1 + 1, 1, none⟩ = some q ∧ Hid (wr.frozen? ⟨w.heap.size + 1 + 1, 0, none⟩ = false ∧ wr.frozen? ⟨w.heap.size + 1 + 1, 1, none⟩ = false ∧ wr.frozen? ⟨w.heap.size + 1 + 1 + 1, 0, none⟩ = false ∧ wr.frozen? ⟨w.heap.size + 1 + 1 + 1, 1, none⟩ = false) ∧ Hid (wr.cell? ⟨w.heap.size, 0, none⟩ = some (.bool false) ∧ wr.cell? ⟨w.heap.size, 1, none⟩ = some (.slice none 0 0) ∧ wr.frozen? ⟨w.heap.size, 0, none⟩ = false ∧ wr.frozen? ⟨w.heap.size, 1, none⟩ = false) ∧ Hid (Below w.heap.size w wr ∧ w.heap.size + 4 ≤ wr.heap.size))
  case atStart =>
    have hs1 : Safe w.heap.size a0 (.slice A1 n1 c1) := safe_mk fun h0 g hg => .inl (dg_block (by decide) H1.out h0 hg)
    have hs2 : Safe w.heap.size b0 (.slice A2 n2 c2) := safe_mk fun h0 g hg => .inl (dg_block (by decide) H2.out h0 hg)
    exact ⟨a0, b0, 1, 0, false, false, _, _, rfl, ⟨H1.out.below HBEL.out.to, H2.out.below HBEL.out.to, HONE.out, Dg.zero (by decide) _⟩, ⟨hs1, hs2, safe_mk fun _ g hg => (by simp [Value.ownBlock] at hg; omega), safe_mk fun h0 => absurd rfl h0⟩, ⟨Eu.start a0 b0, by simp, by simp, by simp⟩, c20, c21, c30, c31, ⟨g20, g21, g30, g31⟩, ⟨c00, c01, g00, g01⟩, ⟨HBEL.out.to, by have := HSZ.out; omega⟩⟩
  case round =>
    obtain ⟨a, b, one, zero, bo, bz, p, q, hgk, HD, HS, HE, e20, e21, e30, e31, HF, HR, HB⟩ := hrel
    have HGK := Lib.hid hgk
    obtain ⟨A3, c3, hv3, -, -, -⟩ := HD.out.2.1
    obtain ⟨Lb, hLb⟩ : ∃ Lb, (dg 1000000000 b).length = Lb := ⟨_, rfl⟩
    rw [hLb] at hv3
    subst hv3
    obtain ⟨A4, n4, c4, rfl⟩ := HD.out.1.form
    obtain ⟨A5, n5, c5, rfl⟩ := HD.out.2.2.1.form
    obtain ⟨A6, n6, c6, rfl⟩ := HD.out.2.2.2.form
    clear c00 c01 c20 c21 c30 c31 g00 g01 g20 g21 g30 g31 hgk
    by_cases hb0 : b = 0
    · have hz : Lb = 0 := by have := hLb; rw [hb0, dg_zero] at this; exact this.symm
      subst hz
      have HB00 := Lib.hid hb0
      clear hLb hb0
      obtain ⟨r0, r1, s0, s1⟩ := HR.out
      go_wp2_with fail
      go_region
      all_goals
        go_wp2
        obtain ⟨F, hF, x0, x1, hfar, hfz, hbf, hwf, hsf⟩ := two_set wr w.heap.size (.bool bo) (.slice A5 n5 c5) r0 r1
        rw [hF]
        have y0 : F.drew.cell? ⟨w.heap.size, 0, none⟩ = some (.bool bo) := x0
        have y1 : F.drew.cell? ⟨w.heap.size, 1, none⟩ = some (.slice A5 n5 c5) := x1
        refine bodyPost_ret (v := .tuple #[.slice A4 n4 c4, .agg #[.bool bo, .slice A5 n5 c5]]) (by simp [results, Tryz.results111, go_sem, y0, y1]) rfl ?_
        obtain ⟨hE, hz1, ho1, ho2⟩ := HE.out
        have hbb : Below w.heap.size w F.drew := (hbf _ _ (Nat.le_refl _) HB.out.1).drew
        have hb0 := HB00.out
        subst hb0
        have hg : Nat.gcd a0 b0 = a := by rw [← hE.gcd, Nat.gcd_zero_right]
        have hsafe : ∀ (n : Nat) (v : Value), Dg 1000000000 wr v n → SafeR w.heap.size n v → Dg 1000000000 F.drew v n := fun n v hd hs => by
          rw [← hF]
          exact (Dg.safe_setR (Dg.safe_setR hd hs _) hs _).drew
        refine ⟨_, _, one, rfl, ?_, ⟨_, by rw [ho1], ?_⟩, ?_, hE.one_, hbb⟩
        · rw [hg]; exact hsafe _ _ HD.out.1 HS.out.1.2
        · exact hsafe _ _ HD.out.2.2.1 HS.out.2.2.1.2
        · rw [hg]; exact hE.fa
    · have hz : 0 < Lb := by rw [← hLb]; exact List.length_pos_iff.2 fun e => by have := (dg_eq_nil (by decide)).1 e; omega
      have hbp : 0 < b := by omega
      have HBP := Lib.hid hbp
      have ha201 : a < 10 ^ 201 := by have := HE.out.1.az; have h1 := HA.out; have h2 := HB0.out; omega
      have hb201 : b < 10 ^ 201 := by have := HE.out.1.bz; have h1 := HA.out; have h2 := HB0.out; omega
      have HLA : Hid ((dg 1000000000 a).length ≤ 1000000) := Nat.le_trans (dg_len_small (by omega)) (by decide)
      have HLB : Hid ((dg 1000000000 b).length ≤ 999999) := dg_len_small (by omega)
      have HLZ : Hid ((dg 1000000000 zero.natAbs).length ≤ 1000000) := Nat.le_trans (dg_len_small (by have := HE.out.2.1; have h2 := HB0.out; omega)) (by decide)
      have HLQ : Hid ((dg 1000000000 ((a / b : Nat) : Int).natAbs).length ≤ 1000000) := by show _ ≤ _; rw [Int.natAbs_natCast]; exact Nat.le_trans (dg_len_small (by have := Nat.div_le_self a b; omega)) (by decide)
      have HLO : Hid ((dg 1000000000 one.natAbs).length ≤ 1000000) := Nat.le_trans (dg_len_small (by have := HE.out.1.one_; have h2 := HB0.out; omega)) (by decide)
      have HLN : Hid ((dg 1000000000 (-(zero * ((a / b : Nat) : Int))).natAbs).length ≤ 1000000) := by show _ ≤ _; rw [Int.natAbs_neg]; exact Nat.le_trans (dg_len_small (by have := HE.out.1.prod_le hbp; have h2 := HB0.out; omega)) (by decide)
      clear hLb hb0 hbp ha201 hb201
      go_wp2_with (go_at_call 75; refine (over_c _ _ a b _ HD.out.1 HD.out.2.1 HBP.out HLA.out HLB.out).mono ?_; rintro e V ⟨uq, ur, rfl, hq, hr, -, hfr, hbz⟩; obtain ⟨A7, n7, c7, rfl⟩ := hq.form; obtain ⟨A8, n8, c8, rfl⟩ := hr.form; have HQ := Lib.hid hq; have HRR := Lib.hid hr; have HFR := Lib.hid hfr; have HBV := Lib.hid hbz; have HVC := Lib.hid (And.intro (And.intro (keep_cell hbz e20) (keep_free' hbz e20 HF.out.1)) (And.intro (And.intro (keep_cell hbz e21) (keep_free' hbz e21 HF.out.2.1)) (And.intro (And.intro (keep_cell hbz e30) (keep_free' hbz e30 HF.out.2.2.1)) (And.intro (keep_cell hbz e31) (keep_free' hbz e31 HF.out.2.2.2))))); have e20 := keep_cell hbz e20; have e21 := keep_cell hbz e21; have e30 := keep_cell hbz e30; have e31 := keep_cell hbz e31; clear hq hr hfr hbz)
      have HWZ : Hid (Wh V.drew (.agg #[.bool bz, .slice A6 n6 c6]) zero) := ⟨_, by rw [← HE.out.2.2.2], (HD.out.2.2.2.below HBV.out).drew⟩
      have HWQ : Hid (Wh V.drew (.agg #[.bool false, .slice A7 n7 c7]) ((a / b : Nat) : Int)) := ⟨_, by rw [decide_eq_false (Int.not_lt.2 (Int.natCast_nonneg _))], by rw [Int.natAbs_natCast]; exact HQ.out.drew⟩
      have HWO : Hid (∀ W', Below V.heap.size V W' → Wh W' (.agg #[.bool bo, .slice A5 n5 c5]) one) := fun W' hW' => ⟨_, by rw [← HE.out.2.2.1], (HD.out.2.2.1.below HBV.out).below hW'⟩
      have d20 : V.drew.cell? ⟨w.heap.size + 1 + 1, 0, none⟩ = some (.bool bo) := e20
      have d21 : V.drew.cell? ⟨w.heap.size + 1 + 1, 1, none⟩ = some (.slice A5 n5 c5) := e21
      have d30 : V.drew.cell? ⟨w.heap.size + 1 + 1 + 1, 0, none⟩ = some (.bool bz) := e30
      have d31 : V.drew.cell? ⟨w.heap.size + 1 + 1 + 1, 1, none⟩ = some (.slice A6 n6 c6) := e31
      go_region_with (first
        | (go_at_call 92; refine (add_c _ _ one (-(zero * ((a / b : Nat) : Int))) _ (HWO.out _ HB4.out) HNG.out.wh HLO.out HLN.out).mono ?_; rintro e W5 ⟨u, rfl, hu, hbz⟩; obtain ⟨b9, A9, n9, c9, rfl, hb9, -⟩ := hu.form; have HAD := Lib.hid hu; have HB5 := Lib.hid (below_then' HB4.out hbz); have e20 := keep_cell hbz e20; have e21 := keep_cell hbz e21; have e30 := keep_cell hbz e30; have e31 := keep_cell hbz e31; have f20 := keep_free' HB5.out HVC.out.1.1 HVC.out.1.2; have f21 := keep_free' HB5.out HVC.out.2.1.1 HVC.out.2.1.2; have f30 := keep_free' HB5.out HVC.out.2.2.1.1 HVC.out.2.2.1.2; have f31 := keep_free' HB5.out HVC.out.2.2.2.1 HVC.out.2.2.2.2; have HB9 := Lib.hid hb9; have HSZ5 := Lib.hid (Nat.le_trans HB4.out.size hbz.size); have HSZ4 := Lib.hid HB4.out.size; clear hu hbz hb9)
        | (go_at_call 94; refine (negN_c 0 _ (zero * ((a / b : Nat) : Int)) _ HML.out.wh.zero).mono ?_; rintro e W4 ⟨u, rfl, hu, hbz⟩; obtain ⟨b8, A8', n8', c8', rfl, -, -⟩ := hu.form; have HNG := Lib.hid hu; have HB4 := Lib.hid (below_then' HB3.out hbz); have e20 := keep_cell hbz e20; have e21 := keep_cell hbz e21; have e30 := keep_cell hbz e30; have e31 := keep_cell hbz e31; clear hu hbz)
        | (go_at_call 57; refine (mulN_c _ _ zero ((a / b : Nat) : Int) _ HWZ.out HWQ.out HLZ.out HLQ.out).mono ?_; rintro e W3 ⟨u, rfl, hu, hbz⟩; obtain ⟨b7, A7', n7', c7', rfl, -, -⟩ := hu.form; have HML := Lib.hid hu; have HB3 : Hid (Below V.heap.size V W3) := ((Below.refl _ V).drew).trans hbz; have e20 := keep_cell hbz d20; have e21 := keep_cell hbz d21; have e30 := keep_cell hbz d30; have e31 := keep_cell hbz d31; clear hu hbz))
      all_goals
        obtain ⟨F1, hF1, x0, x1, hfar, hfz, hbf, hwf, hsf⟩ := two_set W5 (w.heap.size + 1 + 1) (.bool bz) (.slice A6 n6 c6) e20 e21
        obtain ⟨F2, hF2, y0, y1, hfar2, hfz2, hbf2, hwf2, hsf2⟩ := two_set F1 (w.heap.size + 1 + 1 + 1) (.bool b9) (.slice A9 n9 c9) (hfar _ _ (by simp) e30) (hfar _ _ (by simp) e31)
        rw [hF1, hF2]
        go_wp2
        go_roundg (a % b)
        case measure => have h1 := HGK.out; rw [h1]; exact Nat.mod_lt a HBP.out
        case rel =>
          have hw4 := HB.out.2
          have hv4 : w.heap.size + 4 ≤ V.heap.size := Nat.le_trans hw4 HBV.out.size
          have hbV5 := HB5.out
          have hbw : Below w.heap.size w F2 := hbf2 _ _ (by omega) (hbf _ _ (by omega) (below_then' (below_then' HB.out.1 HBV.out) hbV5))
          have hdg : ∀ (n : Nat) (v : Value), Dg 1000000000 W5 v n → Safe w.heap.size n v → Dg 1000000000 F2 v n := fun n v hd hs => by
            rw [← hF2, ← hF1]
            exact Dg.safe_set (Dg.safe_set (Dg.safe_set (Dg.safe_set hd hs.1 (.inl rfl) _) hs.1 (.inl rfl) _) hs.1 (.inr rfl) _) hs.1 (.inr rfl) _
          have hsum := HAD.out
          obtain ⟨t1, t2, t3⟩ := hsum.parts
          have hs4 : w.heap.size + 4 ≤ W4.heap.size := Nat.le_trans hv4 HSZ4.out
          refine ⟨b, a % b, zero, one + -(zero * ((a / b : Nat) : Int)), bz, b9, .slice A6 n6 c6, .slice A9 n9 c9, rfl, ⟨?_, ?_, ?_, ?_⟩, ⟨HS.out.2.1, ?_, HS.out.2.2.2, ?_⟩, ⟨HE.out.1.step HBP.out HE.out.2.1, ?_, HE.out.2.2.2, HB9.out⟩, hfar2 _ _ (by simp) x0, hfar2 _ _ (by simp) x1, y0, y1, ⟨?_, ?_, ?_, ?_⟩, ⟨?_, ?_, ?_, ?_⟩, ⟨hbw, ?_⟩⟩
          · exact hdg _ _ ((HD.out.2.1.below HBV.out).below hbV5) HS.out.2.1
          · exact hdg _ _ (HRR.out.below hbV5) (safe_mk fun _ g hg => .inr (.inl (Nat.le_trans hw4 (HFR.out g hg))))
          · exact hdg _ _ ((HD.out.2.2.2.below HBV.out).below hbV5) HS.out.2.2.2
          · exact hdg _ _ t1 (safe_mk fun _ g hg => .inr (.inl (Nat.le_trans hs4 (t2 g hg))))
          · exact safe_mk fun _ g hg => .inr (.inl (Nat.le_trans hw4 (HFR.out g hg)))
          · exact safe_mk fun _ g hg => .inr (.inl (Nat.le_trans hs4 (t2 g hg)))
          · have := HE.out.1.next_le HBP.out
            have h2 : (one + -(zero * ((a / b : Nat) : Int))).natAbs * 1 ≤ (one + -(zero * ((a / b : Nat) : Int))).natAbs * b := Nat.mul_le_mul_left _ HBP.out
            omega
          · exact (hfz2 _).trans ((hfz _).trans f20)
          · exact (hfz2 _).trans ((hfz _).trans f21)
          · exact (hfz2 _).trans ((hfz _).trans f30)
          · exact (hfz2 _).trans ((hfz _).trans f31)
          · exact hfar2 _ _ (by simp; omega) (hfar _ _ (by simp; omega) (keep_cell hbV5 (keep_cell HBV.out HR.out.1)))
          · exact hfar2 _ _ (by simp; omega) (hfar _ _ (by simp; omega) (keep_cell hbV5 (keep_cell HBV.out HR.out.2.1)))
          · exact (hfz2 _).trans ((hfz _).trans (keep_free' hbV5 (keep_cell HBV.out HR.out.1) (keep_free' HBV.out HR.out.1 HR.out.2.2.1)))
          · exact (hfz2 _).trans ((hfz _).trans (keep_free' hbV5 (keep_cell HBV.out HR.out.2.1) (keep_free' HBV.out HR.out.2.1 HR.out.2.2.2)))
          · rw [hsf2, hsf]; exact Nat.le_trans hv4 hbV5.size

end Go.Proofs.YtbjgpbdkofadiaaGreatDoor

namespace Go.Proofs.YtbjgpbdkofadiaaGreatDoor
set_option linter.unusedVariables false
set_option linter.unusedSimpArgs false
open Go.RowKit Go.Shelf Go.Proofs

theorem old_cells {w w' : World} (h : Below w.heap.size w w') : ∀ a : Addr, a.block < w.heap.size → w'.cell? a = w.cell? a := fun a ha => h.cell ha
theorem old_free {w w' : World} (h : Below w.heap.size w w') : ∀ a : Addr, a.block < w.heap.size → w'.frozen? a = w.frozen? a := fun a ha => h.frozen ha
theorem set_sameS {w : World} {a : Addr} {v : Value} (h : (w.cell? a).isSome = true) : (w.setCell a v).cell? a = some v := by
  obtain ⟨u, hu⟩ := Option.isSome_iff_exists.1 h
  exact set_same v hu
theorem nw0 (W : World) (cs : Array Value) (t : TypeId) (i : Nat) (v : Value) (h : cs[i]? = some v) : (W.alloc (.cells cs t)).cell? ⟨W.heap.size, i, none⟩ = some v := (new_cell W cs t i).trans h
theorem nw0b (W : World) (cs : Array Value) (t : TypeId) (o : Obj) (i : Nat) (v : Value) (h : cs[i]? = some v) : ((W.alloc (.cells cs t)).alloc o).cell? ⟨W.heap.size, i, none⟩ = some v := keep_cell ((Below.refl _ _).alloc (Nat.le_refl _) _) ((new_cell W cs t i).trans h)
theorem nw0c (W : World) (cs : Array Value) (t : TypeId) (o : Obj) (i : Nat) (v : Value) (h : cs[i]? = some v) : ((W.alloc o).alloc (.cells cs t)).cell? ⟨W.heap.size + 1, i, none⟩ = some v := by
  have := new_cell (W.alloc o) cs t i
  rw [show (W.alloc o).heap.size = W.heap.size + 1 by simp] at this
  exact this.trans h
/-- Digits that lie between two blocks. -/
theorem dg_mid {W2 X : World} {v : Value} {n k : Nat} (h : Dg 1000000000 W2 v n) (hf : FromB k v) (hx : ∀ g, k ≤ g → g < W2.heap.size → X.heap[g]? = W2.heap[g]?) : Dg 1000000000 X v n := by
  by_cases h0 : n = 0
  · subst h0; exact dg_any h
  · exact h.same fun g hg => hx g (hf g hg) (dg_block (by decide) h h0 hg)
/-- Cells of blocks just made. -/
theorem nw1 (W : World) (cs : Array Value) (t : TypeId) (i : Nat) (v : Value) (h : cs[i]? = some v) : (W.alloc (.cells cs t)).drew.cell? ⟨W.heap.size, i, none⟩ = some v := (new_cell W cs t i).trans h
theorem nf1 (W : World) (cs : Array Value) (t : TypeId) (i : Nat) : (W.alloc (.cells cs t)).drew.frozen? ⟨W.heap.size, i, none⟩ = false := new_free W cs t i
theorem nw2 (W : World) (cs : Array Value) (t : TypeId) (o : Obj) (i : Nat) (v : Value) (h : cs[i]? = some v) : ((W.alloc (.cells cs t)).alloc o).drew.cell? ⟨W.heap.size, i, none⟩ = some v := keep_cell ((Below.refl _ _).alloc (Nat.le_refl _) _).drew ((new_cell W cs t i).trans h)
theorem nf2 (W : World) (cs : Array Value) (t : TypeId) (o : Obj) (i : Nat) (v : Value) (h : cs[i]? = some v) : ((W.alloc (.cells cs t)).alloc o).drew.frozen? ⟨W.heap.size, i, none⟩ = false := keep_free' ((Below.refl _ _).alloc (Nat.le_refl _) _).drew ((new_cell W cs t i).trans h) (new_free W cs t i)
theorem nw3 (W : World) (cs : Array Value) (t : TypeId) (o : Obj) (i : Nat) (v : Value) (h : cs[i]? = some v) : ((W.alloc o).alloc (.cells cs t)).drew.cell? ⟨W.heap.size + 1, i, none⟩ = some v := by
  have := new_cell (W.alloc o) cs t i
  rw [show (W.alloc o).heap.size = W.heap.size + 1 by simp] at this
  exact this.trans h
theorem nf3 (W : World) (cs : Array Value) (t : TypeId) (o : Obj) (i : Nat) : ((W.alloc o).alloc (.cells cs t)).drew.frozen? ⟨W.heap.size + 1, i, none⟩ = false := by
  have := new_free (W.alloc o) cs t i
  rw [show (W.alloc o).heap.size = W.heap.size + 1 by simp] at this
  exact this

def tx (z : Int) : ByteArray := ⟨(Lib.itoa z).toArray⟩
/-- What a division makes. -/
def divOut (Q R y : Int) : Out := if y = 0 then .err 5 else if Q.natAbs < 10 ^ 200 then .ok (.agg #[.string (tx Q), .string (tx R)]) else .err 3

set_option maxHeartbeats 1000000 in
theorem divided1_zero (lv : Value) (b : Addr) (x : Int) (w : World) (h : Whs w lv [x, 0]) :
    Calls Tryz.prog 110 #[lv, .pointer (some b)] w fun e w' => e = (Out.err 5).end_ ∧ Below w.heap.size w w' := by
  obtain ⟨a, c, p, q, rfl, c0, c1, hp, c2, c3, hq⟩ := h.two
  obtain ⟨A7, c7, hq7, -, -, -⟩ := hq
  rw [show (0 : Int).natAbs = 0 from rfl, dg_zero] at hq7
  simp only [List.length_nil] at hq7
  subst hq7
  have k2 := keep_cell ((Below.refl w.heap.size w).alloc (Nat.le_refl _) (.cells #[.string ⟨#[]⟩, .string ⟨#[]⟩] 125)) c2
  have k3 := keep_cell ((Below.refl w.heap.size w).alloc (Nat.le_refl _) (.cells #[.string ⟨#[]⟩, .string ⟨#[]⟩] 125)) c3
  clear h hp
  go_enter Tryz.func110, Tryz.ntmps110
  go_wp2_with fail
  exact ⟨rfl, rfl, (by repeat (first | exact Below.refl _ _ | exact HB.out | (refine Below.alloc ?_ (by first | (simp; done) | (simp; omega)) _) | (refine Below.setCell ?_ (by first | (simp; done) | (simp; omega)) _) | refine Below.drew ?_ | refine below_drewN ?_ _))⟩

set_option maxRecDepth 100000 in
set_option maxHeartbeats 8000000 in
theorem divided1_some (g : Nat) (eg : ∀ args w, (callFunc g args).run Tryz.prog w = .ok (.enter g args) w) (lv : Value) (b : Addr) (x y Q R : Int) (w : World) (h : Whs w lv [x, y]) (ht : Tabs w) (hy : y ≠ 0) (hb : w.cell? b = some (.func (.func g) #[] #[]))
    (hf : ∀ W v1 v2, Wh W v1 x → Wh W v2 y → Calls Tryz.prog g #[v1, v2] W (TwoP Q R W)) (hQ : (dg 1000000000 Q.natAbs).length ≤ 1000000) (hR : R.natAbs < 10 ^ 200) :
    Calls Tryz.prog 110 #[lv, .pointer (some b)] w fun e w' => e = (divOut Q R y).end_ ∧ Below w.heap.size w w' := by
  obtain ⟨a, c, p, q, rfl, c0, c1, hp, c2, c3, hq⟩ := h.two
  have HT := Lib.hid ht
  obtain ⟨W, hW, kk, ff, hbel, hsz⟩ := boxes1 w #[.string ⟨#[]⟩, .string ⟨#[]⟩] 125
  have HX : Hid (∀ W', Below W.heap.size W W' → Wh W' (.agg #[.bool (decide (x < 0)), p]) x) := fun W' hb => ⟨p, rfl, (hp.below hbel.to).below hb⟩
  have HY : Hid (∀ W', Below W.heap.size W W' → Wh W' (.agg #[.bool (decide (y < 0)), q]) y) := fun W' hb => ⟨q, rfl, (hq.below hbel.to).below hb⟩
  have HFF := Lib.hid hf
  obtain ⟨A6, n6, c6, rfl⟩ := hp.form
  obtain ⟨L, hL⟩ : ∃ L, (dg 1000000000 y.natAbs).length = L := ⟨_, rfl⟩
  have hl0 : 0 < L := by rw [← hL]; exact List.length_pos_iff.2 fun e => by have := (dg_eq_nil (by decide)).1 e; omega
  obtain ⟨A7, c7, hp7, -, -, -⟩ := hq
  rw [hL] at hp7
  subst hp7
  have hl1 : ((L : Int) == 0) = false := by simp; omega
  generalize hbx : decide (x < 0) = bx at *
  generalize hby : decide (y < 0) = by_ at *
  have ha0 : a < W.heap.size := by have := World.block_lt_of_cell? w _ c0; simp at this; omega
  have hb0 : b.block < W.heap.size := by have := World.block_lt_of_cell? w _ hb; omega
  have k0 := keep_cell hbel.to c0
  have k1 := keep_cell hbel.to c1
  have k2 := keep_cell hbel.to c2
  have k3 := keep_cell hbel.to c3
  have kb := keep_cell hbel.to hb
  have r0 := kk 0
  have r1 := kk 1
  have g0 := ff 0
  have g1 := ff 1
  simp at r0 r1
  have HBEL := Lib.hid hbel
  have HSZ : Hid (W.heap.size = w.heap.size + 1) := hsz
  have HWW := Lib.hid hW
  rw [← hW] at k0 k1 k2 k3
  clear h ht hp hf hbx hby hL kk ff hbel hsz c0 c1 c2 c3 hb
  clear hW
  go_enter Tryz.func110, Tryz.ntmps110
  go_upto_region 3 with fail
  rw [HWW.out] at k0 k1 k2 k3
  try rw [HWW.out]
  go_cut [4, 5] from 14 to 24 (fun p4 p5 wx => ∃ (b4 b5 : Nat) (Au Av : Option Addr) (nu cu nv cv : Nat), p4 = .pointer (some ⟨b4, 0, none⟩) ∧ p5 = .pointer (some ⟨b5, 0, none⟩) ∧ wx.cell? ⟨b4, 0, none⟩ = some (.bool (decide (Q < 0))) ∧ wx.cell? ⟨b4, 1, none⟩ = some (.slice Au nu cu) ∧ wx.cell? ⟨b5, 0, none⟩ = some (.bool (decide (R < 0))) ∧ wx.cell? ⟨b5, 1, none⟩ = some (.slice Av nv cv) ∧ Hid (Dg 1000000000 wx (.slice Au nu cu) Q.natAbs ∧ Dg 1000000000 wx (.slice Av nv cv) R.natAbs ∧ Below W.heap.size W wx))
  case first =>
    have hbw : Bel W.heap.size W W := Bel.refl _ _ (Nat.le_refl _)
    go_region_held3 (fun w' => w'.cell? ⟨a, 0, none⟩ = some (.bool bx) ∧ w'.cell? ⟨a, 1, none⟩ = some (.slice A6 n6 c6) ∧ w'.cell? ⟨a, 2, none⟩ = some (.bool by_) ∧ w'.cell? ⟨a, 3, none⟩ = some (.slice A7 L c7) ∧ w'.cell? b = some (.func (.func g) #[] #[]) ∧ Bel W.heap.size W w')
      ((go_split_ands; and_intros <;> (first | (with_reducible assumption) | ((repeat (first | (with_reducible assumption) | (with_reducible refine Bel.alloc ?_ _) | (with_reducible refine Bel.drew ?_) | (with_reducible refine Bel.set ?_ _ (by first | (simp; done) | (simp; omega))) | (with_reducible refine keep_cell ((Below.refl _ _).alloc (Nat.le_refl _) _) ?_) | (with_reducible refine keep_cell (Below.refl _ _).drew ?_) | (with_reducible refine set_far _ (by first | (simp; done) | (simp; omega)) ?_))); done) | (with_reducible exact keep_cell hbz (by assumption)) | (trace_state; fail))))
      ((go_at_fn g; refine (HFF.out _ _ _ (HX.out _ ?_) (HY.out _ ?_)).mono ?_; (go_split_ands; exact Bel.to (by assumption)); (go_split_ands; exact Bel.to (by assumption)); rintro e W2 ⟨u, v, rfl, hu, hv, hbz⟩; obtain ⟨bu, Au, nu, cu, rfl, hbu, -⟩ := hu.form; obtain ⟨bv, Av, nv, cv, rfl, hbv, -⟩ := hv.form; have HU := Lib.hid hu; have HV := Lib.hid hv; have HBZ := Lib.hid hbz; go_split_ands; have hbel2 := Bel.call (show Bel W.heap.size W _ by assumption) hbz; have q0 := keep_cell hbz (show World.cell? _ ⟨a, 0, none⟩ = some (.bool bx) by assumption); have q1 := keep_cell hbz (show World.cell? _ ⟨a, 1, none⟩ = some (.slice A6 n6 c6) by assumption); have q2 := keep_cell hbz (show World.cell? _ ⟨a, 2, none⟩ = some (.bool by_) by assumption); have q3 := keep_cell hbz (show World.cell? _ ⟨a, 3, none⟩ = some (.slice A7 L c7) by assumption); have q4 := keep_cell hbz (show World.cell? _ b = some (.func (.func g) #[] #[]) by assumption); have hcell := old_cells hbz; have hfrz := old_free hbz; have hm := hbz.size; simp at hm; (first | (with_reducible (have d00 := keep_cell hbz (nw2 W #[.bool false, .slice none 0 0] 72 (.cells #[.bool false, .slice none 0 0] 72) 0 _ rfl); have d01 := keep_cell hbz (nw2 W #[.bool false, .slice none 0 0] 72 (.cells #[.bool false, .slice none 0 0] 72) 1 _ rfl); have d10 := keep_cell hbz (nw3 W #[.bool false, .slice none 0 0] 72 (.cells #[.bool false, .slice none 0 0] 72) 0 _ rfl); have d11 := keep_cell hbz (nw3 W #[.bool false, .slice none 0 0] 72 (.cells #[.bool false, .slice none 0 0] 72) 1 _ rfl); have e00 := keep_free' hbz (nw2 W #[.bool false, .slice none 0 0] 72 (.cells #[.bool false, .slice none 0 0] 72) 0 _ rfl) (nf2 W #[.bool false, .slice none 0 0] 72 (.cells #[.bool false, .slice none 0 0] 72) 0 _ rfl); have e01 := keep_free' hbz (nw2 W #[.bool false, .slice none 0 0] 72 (.cells #[.bool false, .slice none 0 0] 72) 1 _ rfl) (nf2 W #[.bool false, .slice none 0 0] 72 (.cells #[.bool false, .slice none 0 0] 72) 1 _ rfl); have e10 := keep_free' hbz (nw3 W #[.bool false, .slice none 0 0] 72 (.cells #[.bool false, .slice none 0 0] 72) 0 _ rfl) (nf3 W #[.bool false, .slice none 0 0] 72 (.cells #[.bool false, .slice none 0 0] 72) 0); have e11 := keep_free' hbz (nw3 W #[.bool false, .slice none 0 0] 72 (.cells #[.bool false, .slice none 0 0] 72) 1 _ rfl) (nf3 W #[.bool false, .slice none 0 0] 72 (.cells #[.bool false, .slice none 0 0] 72) 1))) | (with_reducible (have d00 := keep_cell hbz (nw1 W #[.bool false, .slice none 0 0] 72 0 _ rfl); have d01 := keep_cell hbz (nw1 W #[.bool false, .slice none 0 0] 72 1 _ rfl); have e00 := keep_free' hbz (nw1 W #[.bool false, .slice none 0 0] 72 0 _ rfl) (nf1 W #[.bool false, .slice none 0 0] 72 0); have e01 := keep_free' hbz (nw1 W #[.bool false, .slice none 0 0] 72 1 _ rfl) (nf1 W #[.bool false, .slice none 0 0] 72 1)); have hne1 : W.heap.size ≠ W2.heap.size := (by omega); have hne2 : W2.heap.size ≠ W.heap.size := (by omega); have x00 := fun (o : Obj) => keep_cell ((Below.refl _ _).alloc (Nat.le_refl _) o) d00; have x01 := fun (o : Obj) => keep_cell ((Below.refl _ _).alloc (Nat.le_refl _) o) d01; have y00 := fun (o : Obj) => keep_free' ((Below.refl _ _).alloc (Nat.le_refl _) o) d00 e00; have y01 := fun (o : Obj) => keep_free' ((Below.refl _ _).alloc (Nat.le_refl _) o) d01 e01) | skip); clear hcell hfrz; clear hu hv))
    all_goals
      go_wp2_with fail
      go_meet
      refine ⟨_, _, Au, Av, nu, cu, nv, cv, rfl, rfl, ?_, ?_, ?_, ?_, ⟨?_, ?_, ?_⟩⟩
      · (repeat (first | (with_reducible assumption) | (with_reducible exact nw0 _ _ _ _ _ rfl) | (with_reducible exact nw0b _ _ _ _ _ _ rfl) | (with_reducible exact nw0c _ _ _ _ _ _ rfl) | ((with_reducible refine set_sameS ?_); (repeat (first | (with_reducible exact Option.isSome_iff_exists.2 ⟨_, d00⟩) | (with_reducible exact Option.isSome_iff_exists.2 ⟨_, d01⟩) | (with_reducible exact Option.isSome_iff_exists.2 ⟨_, d10⟩) | (with_reducible exact Option.isSome_iff_exists.2 ⟨_, d11⟩) | (with_reducible exact Option.isSome_iff_exists.2 ⟨_, x00 _⟩) | (with_reducible exact Option.isSome_iff_exists.2 ⟨_, x01 _⟩) | (with_reducible exact Option.isSome_iff_exists.2 ⟨_, nw0 _ _ _ _ _ rfl⟩) | (with_reducible refine some_set ?_))); done) | (with_reducible refine set_other _ (by first | (simp; done)) ?_) | (with_reducible refine set_far _ (by first | omega | (simp; done) | (simp; omega)) ?_)))
      · (repeat (first | (with_reducible assumption) | (with_reducible exact nw0 _ _ _ _ _ rfl) | (with_reducible exact nw0b _ _ _ _ _ _ rfl) | (with_reducible exact nw0c _ _ _ _ _ _ rfl) | ((with_reducible refine set_sameS ?_); (repeat (first | (with_reducible exact Option.isSome_iff_exists.2 ⟨_, d00⟩) | (with_reducible exact Option.isSome_iff_exists.2 ⟨_, d01⟩) | (with_reducible exact Option.isSome_iff_exists.2 ⟨_, d10⟩) | (with_reducible exact Option.isSome_iff_exists.2 ⟨_, d11⟩) | (with_reducible exact Option.isSome_iff_exists.2 ⟨_, x00 _⟩) | (with_reducible exact Option.isSome_iff_exists.2 ⟨_, x01 _⟩) | (with_reducible exact Option.isSome_iff_exists.2 ⟨_, nw0 _ _ _ _ _ rfl⟩) | (with_reducible refine some_set ?_))); done) | (with_reducible refine set_other _ (by first | (simp; done)) ?_) | (with_reducible refine set_far _ (by first | omega | (simp; done) | (simp; omega)) ?_)))
      · (repeat (first | (with_reducible assumption) | (with_reducible exact nw0 _ _ _ _ _ rfl) | (with_reducible exact nw0b _ _ _ _ _ _ rfl) | (with_reducible exact nw0c _ _ _ _ _ _ rfl) | ((with_reducible refine set_sameS ?_); (repeat (first | (with_reducible exact Option.isSome_iff_exists.2 ⟨_, d00⟩) | (with_reducible exact Option.isSome_iff_exists.2 ⟨_, d01⟩) | (with_reducible exact Option.isSome_iff_exists.2 ⟨_, d10⟩) | (with_reducible exact Option.isSome_iff_exists.2 ⟨_, d11⟩) | (with_reducible exact Option.isSome_iff_exists.2 ⟨_, x00 _⟩) | (with_reducible exact Option.isSome_iff_exists.2 ⟨_, x01 _⟩) | (with_reducible exact Option.isSome_iff_exists.2 ⟨_, nw0 _ _ _ _ _ rfl⟩) | (with_reducible refine some_set ?_))); done) | (with_reducible refine set_other _ (by first | (simp; done)) ?_) | (with_reducible refine set_far _ (by first | omega | (simp; done) | (simp; omega)) ?_)))
      · (repeat (first | (with_reducible assumption) | (with_reducible exact nw0 _ _ _ _ _ rfl) | (with_reducible exact nw0b _ _ _ _ _ _ rfl) | (with_reducible exact nw0c _ _ _ _ _ _ rfl) | ((with_reducible refine set_sameS ?_); (repeat (first | (with_reducible exact Option.isSome_iff_exists.2 ⟨_, d00⟩) | (with_reducible exact Option.isSome_iff_exists.2 ⟨_, d01⟩) | (with_reducible exact Option.isSome_iff_exists.2 ⟨_, d10⟩) | (with_reducible exact Option.isSome_iff_exists.2 ⟨_, d11⟩) | (with_reducible exact Option.isSome_iff_exists.2 ⟨_, x00 _⟩) | (with_reducible exact Option.isSome_iff_exists.2 ⟨_, x01 _⟩) | (with_reducible exact Option.isSome_iff_exists.2 ⟨_, nw0 _ _ _ _ _ rfl⟩) | (with_reducible refine some_set ?_))); done) | (with_reducible refine set_other _ (by first | (simp; done)) ?_) | (with_reducible refine set_far _ (by first | omega | (simp; done) | (simp; omega)) ?_)))
      · refine dg_mid HU.out.parts.1 HU.out.parts.2.1 (fun g' hg1 hg2 => ?_)
        simp at hg1
        (repeat (first | rfl | (rw [Below.heap_setCell _ _ _ _ (by first | omega | (simp; done) | (simp; omega))]) | (rw [Below.heap_alloc _ _ _ (by first | omega | (simp; done) | (simp; omega))])))
      · refine dg_mid HV.out.parts.1 HV.out.parts.2.1 (fun g' hg1 hg2 => ?_)
        simp at hg1
        (repeat (first | rfl | (rw [Below.heap_setCell _ _ _ _ (by first | omega | (simp; done) | (simp; omega))]) | (rw [Below.heap_alloc _ _ _ (by first | omega | (simp; done) | (simp; omega))])))
      · (repeat (first | (with_reducible exact hbel2.to) | (with_reducible refine Below.alloc ?_ (by first | omega | (simp; done) | (simp; omega)) _) | (with_reducible refine Below.setCell ?_ (by first | omega | (simp; done) | (simp; omega)) _)))
  case rest =>
    obtain ⟨b4, b5, Au, Av, nu, cu, nv, cv, rfl, rfl, e0, e1, e2, e3, HH⟩ := hcut
    have h0 := keep_cell HH.out.2.2 r0
    have h1 := keep_cell HH.out.2.2 r1
    have z0 := keep_free' HH.out.2.2 r0 g0
    have z1 := keep_free' HH.out.2.2 r1 g1
    have HQ : Hid (Wh wc.drew (.agg #[.bool (decide (Q < 0)), .slice Au nu cu]) Q) := ⟨_, rfl, HH.out.1.drew⟩
    have HR : Hid (∀ w', Below wc.drew.heap.size wc.drew w' → Wh w' (.agg #[.bool (decide (R < 0)), .slice Av nv cv]) R) := fun w' hb => ⟨_, rfl, HH.out.2.1.drew.below hb⟩
    have HBC : Hid (Below w.heap.size w wc.drew) := (below_then' HBEL.out.to HH.out.2.2).drew
    have d0 : wc.drew.cell? ⟨w.heap.size, 0, none⟩ = some (.string ⟨#[]⟩) := h0
    have d1 : wc.drew.cell? ⟨w.heap.size, 1, none⟩ = some (.string ⟨#[]⟩) := h1
    have d2 : wc.drew.frozen? ⟨w.heap.size, 0, none⟩ = false := z0
    have d3 : wc.drew.frozen? ⟨w.heap.size, 1, none⟩ = false := z1
    have d4 : wc.drew.cell? ⟨b5, 0, none⟩ = some (.bool (decide (R < 0))) := e2
    have d5 : wc.drew.cell? ⟨b5, 1, none⟩ = some (.slice Av nv cv) := e3
    have HRF : Hid (textOut R = .ok (.string (tx R))) := if_pos hR
    have HLR : Hid ((dg 1000000000 R.natAbs).length ≤ 1000000) := Nat.le_trans (len23 hR) (by decide)
    have HLQ := Lib.hid hQ
    by_cases hfit : Q.natAbs < 10 ^ 200
    · have HQF : Hid (textOut Q = .ok (.string (tx Q))) := if_pos hfit
      have HO : Hid (divOut Q R y = .ok (.agg #[.string (tx Q), .string (tx R)])) := by
        show _ = _
        unfold divOut
        rw [if_neg hy, if_pos hfit]
      clear hfit hy hR hQ r0 r1 g0 g1 k0 k1 k2 k3 kb hl0 hl1
      go_wp2_with fail
      go_region_with (first
        | (go_at_call 58; refine (text_out _ R _ HR3.out (HT.out.below HB3.out) HLR.out).mono ?_; rw [HRF.out]; rintro e W4 ⟨he, hbz⟩; have he2 : e = .returned (.string (tx R)) := he; subst he2; have d2 := keep_free' hbz d0 d2; have d3 := keep_free' hbz d1 d3; have d0 := keep_cell hbz d0; have d1 := keep_cell hbz d1; have HB4 := Lib.hid (below_then' HB3.out hbz); clear he hbz)
        | (go_at_call 58; refine (text_out _ Q _ HQ.out (HT.out.below HBC.out) HLQ.out).mono ?_; rw [HQF.out]; rintro e W3 ⟨he, hbz⟩; have he2 : e = .returned (.string (tx Q)) := he; subst he2; have d2 := keep_free' hbz d0 d2; have d3 := keep_free' hbz d1 d3; have d0 := keep_cell hbz d0; have d1 := keep_cell hbz d1; have d4 := keep_cell hbz d4; have d5 := keep_cell hbz d5; have HB3 := Lib.hid (below_then' HBC.out hbz); have HR3 := Lib.hid (HR.out _ hbz); clear he hbz))
      all_goals
        go_wp2
        have t0 := set_other (a := ⟨w.heap.size, 1, none⟩) (.string (tx R)) (by simp) (set_same (.string (tx Q)) d0)
        have t1 := set_same (.string (tx R)) (set_other (a := ⟨w.heap.size, 0, none⟩) (.string (tx Q)) (by simp) d1)
        refine bodyPost_ret (v := .agg #[.string (tx Q), .string (tx R)]) (by simp [results, Tryz.results110, go_sem, t0, t1]) rfl ?_
        exact ⟨by rw [HO.out]; rfl, (HB4.out.setCell (p := ⟨w.heap.size, 0, none⟩) (Nat.le_refl _) _).setCell (p := ⟨w.heap.size, 1, none⟩) (Nat.le_refl _) _⟩
    · have HQF : Hid (textOut Q = .err 3) := if_neg hfit
      have HO : Hid (divOut Q R y = .err 3) := by
        show _ = _
        unfold divOut
        rw [if_neg hy, if_neg hfit]
      clear hfit hy hR hQ r0 r1 g0 g1 k0 k1 k2 k3 kb hl0 hl1
      go_wp2_with fail
      go_region_dies
      all_goals
        go_at_call 58
        refine (text_out _ Q _ HQ.out (HT.out.below HBC.out) HLQ.out).mono ?_
        rw [HQF.out]
        rintro e W3 ⟨he, hbz⟩
        have he2 : e = .panicked (failChain 3) := he
        subst he2
        dsimp only
        first
          | exact ⟨rfl, by rw [HO.out]; rfl, below_then' HBC.out hbz⟩
          | (apply_assumption; exact ⟨rfl, by rw [HO.out]; rfl, below_then' HBC.out hbz⟩)

end Go.Proofs.YtbjgpbdkofadiaaGreatDoor

namespace Go.Proofs.YtbjgpbdkofadiaaGreatDoor
set_option linter.unusedVariables false
set_option linter.unusedSimpArgs false
open Go.RowKit Go.Shelf Go.Proofs

/-- Three results out of what a division makes. -/
def three : Out → Value
  | .ok (.agg #[a, b]) => .tuple #[a, b, .int .i64 0]
  | .ok v => v
  | .err k => .tuple #[.string ⟨#[]⟩, .string ⟨#[]⟩, .int .i64 k]
/-- What a division of two strings returns. -/
def DivA (S T : ByteArray) (Q R : Int → Int → Int) (w : World) (e : Ending) (w' : World) : Prop :=
  ((∃ x y, NumL S.data.toList x ∧ NumL T.data.toList y ∧ e = .returned (three (divOut (Q x y) (R x y) y))) ∨ ((¬ ((∃ x, NumL S.data.toList x) ∧ ∃ y, NumL T.data.toList y)) ∧ e = .returned (.tuple #[.string ⟨#[]⟩, .string ⟨#[]⟩, .int .i64 1]))) ∧ Below w.heap.size w w'
theorem DivA.more {S T : ByteArray} {Q R : Int → Int → Int} {w w1 w2 : World} {e : Ending} (h : DivA S T Q R w e w1) (hb : Below w1.heap.size w1 w2) : DivA S T Q R w e w2 := ⟨h.1, below_then' h.2 hb⟩
def dv2 (Q R : Int → Int → Int) (zs : List Int) : Out := divOut (Q (zs.headD 0) (zs.getD 1 0)) (R (zs.headD 0) (zs.getD 1 0)) (zs.getD 1 0)

theorem divOut_form (Q R y : Int) : (∃ a b, divOut Q R y = .ok (.agg #[.string a, .string b])) ∨ ∃ k, divOut Q R y = .err k := by
  unfold divOut
  split
  · exact .inr ⟨_, rfl⟩
  · split
    · exact .inl ⟨_, _, rfl⟩
    · exact .inr ⟨_, rfl⟩

theorem with_div {S T : ByteArray} {Q R : Int → Int → Int} {w w1 : World} {e : Ending} {w' : World} (h : WithP [S, T] (dv2 Q R) (.agg #[.string ⟨#[]⟩, .string ⟨#[]⟩]) w1 e w') (hb : Below w.heap.size w w1) :
    ∃ a b k, e = .returned (.tuple #[.agg #[.string a, .string b], .int .i64 k]) ∧ DivA S T Q R w (.returned (.tuple #[.string a, .string b, .int .i64 k])) w' := by
  obtain ⟨h, hb2⟩ := h
  have hbb := below_then' hb hb2
  rcases h with ⟨zs, hz, rfl⟩ | ⟨hn, rfl⟩
  · obtain ⟨x, y, rfl, hx, hy⟩ := two_zs hz
    have e2 : dv2 Q R [x, y] = divOut (Q x y) (R x y) y := rfl
    rw [e2]
    rcases divOut_form (Q x y) (R x y) y with ⟨a, b, h⟩ | ⟨k, h⟩
    · exact ⟨a, b, 0, by rw [h]; rfl, .inl ⟨x, y, hx, hy, by rw [h]; rfl⟩, hbb⟩
    · exact ⟨_, _, k, by rw [h]; rfl, .inl ⟨x, y, hx, hy, by rw [h]; rfl⟩, hbb⟩
  · refine ⟨_, _, _, rfl, .inr ⟨?_, rfl⟩, hbb⟩
    rintro ⟨⟨x, hx⟩, y, hy⟩
    refine hn ⟨[x, y], rfl, fun j hj => ?_⟩
    match j, hj with
    | 0, _ => simpa using hx
    | 1, _ => simpa using hy

theorem divided1_c (g : Nat) (eg : ∀ args w, (callFunc g args).run Tryz.prog w = .ok (.enter g args) w) (lv : Value) (b : Addr) (x y Q R : Int) (w : World) (h : Whs w lv [x, y]) (ht : Tabs w) (hb : w.cell? b = some (.func (.func g) #[] #[]))
    (hf : y ≠ 0 → (∀ W v1 v2, Wh W v1 x → Wh W v2 y → Calls Tryz.prog g #[v1, v2] W (TwoP Q R W)) ∧ (dg 1000000000 Q.natAbs).length ≤ 1000000 ∧ R.natAbs < 10 ^ 200) :
    Calls Tryz.prog 110 #[lv, .pointer (some b)] w fun e w' => e = (divOut Q R y).end_ ∧ Below w.heap.size w w' := by
  by_cases hy : y = 0
  · subst hy
    rw [show divOut Q R 0 = .err 5 from if_pos rfl]
    exact divided1_zero lv b x w h
  · obtain ⟨h1, h2, h3⟩ := hf hy
    exact divided1_some g eg lv b x y Q R w h ht hy hb h1 h2 h3

set_option maxRecDepth 100000 in
set_option maxHeartbeats 2000000 in
theorem divided_c (S T : ByteArray) (g : Nat) (eg : ∀ args w, (callFunc g args).run Tryz.prog w = .ok (.enter g args) w) (Q R : Int → Int → Int) (w : World) (ht : Tabs w)
    (hf : ∀ x y, NumL S.data.toList x → NumL T.data.toList y → y ≠ 0 → (∀ W v1 v2, Wh W v1 x → Wh W v2 y → Calls Tryz.prog g #[v1, v2] W (TwoP (Q x y) (R x y) W)) ∧ (dg 1000000000 (Q x y).natAbs).length ≤ 1000000 ∧ (R x y).natAbs < 10 ^ 200) :
    Calls Tryz.prog 64 #[.string S, .string T, .func (.func g) #[] #[]] w (DivA S T Q R w) := by
  have HT := Lib.hid ht
  have HFF := Lib.hid hf
  have HS2 : Hid (Strs ((w.alloc (.cells #[.func (.func g) #[] #[]] 82)).alloc (.cells #[.string S, .string T] 9)) (.slice (some ⟨w.heap.size + 1, 0, none⟩) 2 2) [S, T]) := by
    have := strs_two (w.alloc (.cells #[.func (.func g) #[] #[]] 82)) S T 9
    rw [show (w.alloc (.cells #[.func (.func g) #[] #[]] 82)).heap.size = w.heap.size + 1 by simp] at this
    exact this
  clear ht hf
  go_enter Tryz.func64, Tryz.ntmps64
  go_wp2_with (go_at_call 109; refine (with2_c 110 #[.pointer (some ⟨w.heap.size, 0, none⟩)] (enters_of Tryz.func110 (by kernel_rfl) rfl) _ [S, T] (dv2 Q R) _ HS2.out (by simp) ?hok ?hf).mono ?_)
  case hok =>
    intro zs r hz h
    obtain ⟨x, y, rfl, hx, hy⟩ := two_zs hz
    have e2 : dv2 Q R [x, y] = divOut (Q x y) (R x y) y := rfl
    rw [e2] at h
    rcases divOut_form (Q x y) (R x y) y with ⟨a, b, h'⟩ | ⟨k, h'⟩
    · rw [h'] at h; cases h; exact ⟨a, b, rfl⟩
    · rw [h'] at h; cases h
  case hf =>
    intro zs hz W lv hb hw
    obtain ⟨x, y, rfl, hx, hy⟩ := two_zs hz
    have hc : ((w.alloc (.cells #[.func (.func g) #[] #[]] 82)).alloc (.cells #[.string S, .string T] 9)).cell? ⟨w.heap.size, 0, none⟩ = some (.func (.func g) #[] #[]) := keep_cell ((Below.refl _ _).alloc (Nat.le_refl _) _) (new_cell w #[.func (.func g) #[] #[]] 82 0)
    exact divided1_c g eg lv ⟨w.heap.size, 0, none⟩ x y (Q x y) (R x y) W hw (HT.out.below (Below.trans (((Below.refl w.heap.size w).alloc (Nat.le_refl _) _).alloc (by simp) _) (hb.mono (by first | (simp; done) | (simp; omega) | omega)))) (keep_cell (by simpa using hb) hc) (HFF.out x y hx hy)
  rintro e w' h
  obtain ⟨a, b, k, rfl, hr⟩ := with_div (Q := Q) (R := R) h (((Below.refl w.heap.size w).alloc (Nat.le_refl _) _).alloc (by simp) _)
  have HR := Lib.hid hr
  clear h hr
  go_wp2_with fail
  go_region
  all_goals
    go_wp2
    refine bodyPost_ret (v := .tuple #[.string a, .string b, .int .i64 k]) (by simp [results, Tryz.results64, go_sem]) rfl ?_
    exact HR.out.more (((Below.refl _ w').alloc (Nat.le_refl _) _).drew)

theorem diva_form {S T : ByteArray} {Q R : Int → Int → Int} {w w' : World} {e : Ending} (h : DivA S T Q R w e w') : ∃ a b k, e = .returned (.tuple #[.string a, .string b, .int .i64 k]) := by
  rcases h.1 with ⟨x, y, _, _, rfl⟩ | ⟨_, rfl⟩
  · rcases divOut_form (Q x y) (R x y) y with ⟨a, b, h'⟩ | ⟨k, h'⟩
    · rw [h']; exact ⟨_, _, _, rfl⟩
    · rw [h']; exact ⟨_, _, _, rfl⟩
  · exact ⟨_, _, _, rfl⟩

theorem fdiv_small (x : Int) {y : Int} (hy : y ≠ 0) : (x.fdiv y).natAbs ≤ x.natAbs + 1 ∧ (x.fmod y).natAbs < y.natAbs := by
  have h1 : (x.tdiv y).natAbs ≤ x.natAbs := by rw [Int.natAbs_tdiv]; exact Nat.div_le_self _ _
  have h2 : (x.tmod y).natAbs < y.natAbs := by rw [Int.natAbs_tmod]; exact Nat.mod_lt _ (by omega)
  refine ⟨?_, ?_⟩
  · by_cases h0 : x.tmod y = 0
    · rw [(fdiv_same hy (.inl h0)).1]; omega
    · by_cases hs : (x.tmod y < 0 ↔ y < 0)
      · rw [(fdiv_same hy (.inr hs)).1]; omega
      · rw [(fdiv_diff hy h0 hs).1]; omega
  · rcases Int.lt_or_le 0 y with k | k
    · have a := Int.fmod_nonneg_of_pos x k
      have b := Int.fmod_lt_of_pos x k
      omega
    · have a := fmod_neg_bound x (show y < 0 by omega)
      omega

set_option maxRecDepth 100000 in
set_option maxHeartbeats 1000000 in
theorem numQuo_c (S T : ByteArray) (w : World) (ht : Tabs w) : Calls Tryz.prog 27 #[.string S, .string T] w (DivA S T (fun x y => x.tdiv y) (fun x y => x.tmod y) w) := by
  have HT := Lib.hid ht
  clear ht
  go_enter Tryz.func27, Tryz.ntmps27
  go_wp2_with (go_at_call 64; refine (divided_c S T 65 (enters_of Tryz.func65 (by kernel_rfl) rfl) (fun x y => x.tdiv y) (fun x y => x.tmod y) _ HT.out ?hf).mono ?_)
  case hf =>
    intro x y hx hy hy0
    refine ⟨fun W v1 v2 h1 h2 => quo_c v1 v2 x y W h1 h2 hy0 (Nat.le_trans (len23 hx.2) (by decide)) (Nat.le_trans (len23 hy.2) (by decide)), ?_, ?_⟩
    · rw [Int.natAbs_tdiv]; exact Nat.le_trans (len23 (Nat.lt_of_le_of_lt (Nat.div_le_self _ _) hx.2)) (by decide)
    · rw [Int.natAbs_tmod]; exact Nat.lt_of_le_of_lt (Nat.le_of_lt (Nat.mod_lt _ (by omega))) hy.2
  rintro e w' h
  obtain ⟨a, b, k, rfl⟩ := diva_form h
  have HR := Lib.hid h
  clear h
  go_wp2
  refine bodyPost_ret (v := .tuple #[.string a, .string b, .int .i64 k]) (by simp [results, Tryz.results27, go_sem]) rfl ?_
  exact HR.out

set_option maxRecDepth 100000 in
set_option maxHeartbeats 1000000 in
theorem numFloor_c (S T : ByteArray) (w : World) (ht : Tabs w) : Calls Tryz.prog 28 #[.string S, .string T] w (DivA S T (fun x y => x.fdiv y) (fun x y => x.fmod y) w) := by
  have HT := Lib.hid ht
  clear ht
  go_enter Tryz.func28, Tryz.ntmps28
  go_wp2_with (go_at_call 64; refine (divided_c S T 66 (enters_of Tryz.func66 (by kernel_rfl) rfl) (fun x y => x.fdiv y) (fun x y => x.fmod y) _ HT.out ?hf).mono ?_)
  case hf =>
    intro x y hx hy hy0
    have hs := fdiv_small x hy0
    refine ⟨fun W v1 v2 h1 h2 => floor_c v1 v2 x y W h1 h2 hy0 (Nat.le_trans (len23 hx.2) (by decide)) (Nat.le_trans (len23 hy.2) (by decide)), ?_, Nat.lt_trans hs.2 hy.2⟩
    exact Nat.le_trans (dg_len_small (by have := hs.1; have := hx.2; omega)) (by decide)
  rintro e w' h
  obtain ⟨a, b, k, rfl⟩ := diva_form h
  have HR := Lib.hid h
  clear h
  go_wp2
  refine bodyPost_ret (v := .tuple #[.string a, .string b, .int .i64 k]) (by simp [results, Tryz.results28, go_sem]) rfl ?_
  exact HR.out

end Go.Proofs.YtbjgpbdkofadiaaGreatDoor

namespace Go.Proofs.YtbjgpbdkofadiaaGreatDoor
set_option linter.unusedVariables false
set_option linter.unusedSimpArgs false
open Go.RowKit Go.Shelf Go.Proofs

/-- i nines. -/
def nin (i : Nat) : ByteArray := ⟨(List.replicate i (57 : UInt8)).toArray⟩
theorem nin_size (i : Nat) : (nin i).size = i := by
  show (List.replicate i (57 : UInt8)).toArray.size = i
  simp
theorem nin_succ (i : Nat) : nin i ++ ⟨#[57]⟩ = nin (i + 1) := by
  unfold nin
  apply ByteArray.ext
  rw [ByteArray.data_append]
  apply Array.ext'
  simp [List.replicate_succ']

set_option maxHeartbeats 1000000 in
theorem nines_c (n : Nat) (hn : n ≤ 1000) (w : World) : Calls Tryz.prog 54 #[.int .i64 (n : Int)] w fun e w' => e = .returned (.string (nin n)) ∧ w = w' := by
  go_enter Tryz.func54, Tryz.ntmps54
  go_wp2
  go_loopg [3, 4] n (fun gk sv iv wr => ∃ i : Nat, sv = .string (nin i) ∧ iv = .int .i64 i ∧ i + gk = n ∧ wr = w)
  case atStart => exact ⟨0, rfl, rfl, by omega, rfl⟩
  case round =>
    obtain ⟨i, rfl, rfl, hi, rfl⟩ := hrel
    have HGK := Lib.hid hi
    by_cases hlt : i < n
    · have HLT := Lib.hid hlt
      have hi9 : i < 9223372036854775807 := by omega
      have hsz := nin_size i
      clear hi hlt
      go_wp2
      go_roundg (gk - 1)
      case measure => have h1 := HGK.out; have h2 := HLT.out; omega
      case rel => exact ⟨i + 1, by rw [nin_succ], by simp, by have h1 := HGK.out; have h2 := HLT.out; omega, rfl⟩
    · have hin : i = n := by omega
      subst hin
      go_wp2
      go_ret
      exact ⟨rfl, rfl⟩

theorem nl_lit {l : List UInt8} {z : Int} (h1 : Lib.itoa z = l) (h2 : z.natAbs < 10 ^ 200) : NumL l z := ⟨h1.symm, h2⟩
theorem nl_m7 : NumL [45, 55] (-7) := nl_lit (by decide +kernel) (by decide)
theorem nl_2 : NumL [50] 2 := nl_lit (by decide +kernel) (by decide)
theorem nl_99 : NumL [57, 57] 99 := nl_lit (by decide +kernel) (by decide)
theorem nl_m255 : NumL [45, 50, 53, 53] (-255) := nl_lit (by decide +kernel) (by decide)
theorem nl_12 : NumL [49, 50] 12 := nl_lit (by decide +kernel) (by decide)
theorem nl_18 : NumL [49, 56] 18 := nl_lit (by decide +kernel) (by decide)
theorem nl_m12 : NumL [45, 49, 50] (-12) := nl_lit (by decide +kernel) (by decide)
theorem nl_007 : ¬ ∃ z, NumL [48, 48, 55] z := by
  rintro ⟨z, h1, h2⟩
  unfold Lib.itoa at h1
  split at h1
  · simp at h1
  · have h3 := congrArg decVal h1
    rw [decVal_decDigits] at h3
    have h4 : decVal [48, 48, 55] = 7 := by decide
    rw [← h3, h4] at h1
    exact absurd h1 (by decide +kernel)
theorem nl_nin : NumL (nin 200).data.toList (10 ^ 200 - 1) := nl_lit (by decide +kernel) (by decide +kernel)

theorem quo_s (w : World) (ht : Tabs w) : Calls Tryz.prog 27 #[.string ⟨#[45, 55]⟩, .string ⟨#[50]⟩] w fun e w' => e = .returned (.tuple #[.string ⟨#[45, 51]⟩, .string ⟨#[45, 49]⟩, .int .i64 0]) ∧ Below w.heap.size w w' := by
  refine (numQuo_c _ _ w ht).mono ?_
  rintro e w' ⟨⟨x, y, hx, hy, rfl⟩ | ⟨hn, _⟩, hb⟩
  · obtain rfl := itoa_inj (hx.1.symm.trans nl_m7.1)
    obtain rfl := itoa_inj (hy.1.symm.trans nl_2.1)
    refine ⟨?_, hb⟩
    show Ending.returned (.tuple #[.string (tx (-3)), .string (tx (-1)), .int .i64 0]) = _
    rw [show tx (-3) = ⟨#[45, 51]⟩ from by decide +kernel, show tx (-1) = ⟨#[45, 49]⟩ from by decide +kernel]
  · exact absurd ⟨⟨_, nl_m7⟩, _, nl_2⟩ hn
theorem floor_s (w : World) (ht : Tabs w) : Calls Tryz.prog 28 #[.string ⟨#[45, 55]⟩, .string ⟨#[50]⟩] w fun e w' => e = .returned (.tuple #[.string ⟨#[45, 52]⟩, .string ⟨#[49]⟩, .int .i64 0]) ∧ Below w.heap.size w w' := by
  refine (numFloor_c _ _ w ht).mono ?_
  rintro e w' ⟨⟨x, y, hx, hy, rfl⟩ | ⟨hn, _⟩, hb⟩
  · obtain rfl := itoa_inj (hx.1.symm.trans nl_m7.1)
    obtain rfl := itoa_inj (hy.1.symm.trans nl_2.1)
    refine ⟨?_, hb⟩
    show Ending.returned (.tuple #[.string (tx (-4)), .string (tx 1), .int .i64 0]) = _
    rw [show tx (-4) = ⟨#[45, 52]⟩ from by decide +kernel, show tx 1 = ⟨#[49]⟩ from by decide +kernel]
  · exact absurd ⟨⟨_, nl_m7⟩, _, nl_2⟩ hn
theorem mul_s (w : World) (ht : Tabs w) : Calls Tryz.prog 19 #[.string (nin 200), .string ⟨#[50]⟩] w (Ans ⟨#[]⟩ 3 w) := by
  refine (numMul_c _ _ w ht).mono ?_
  intro e w' h
  exact ans_mk (bi_at h nl_nin nl_2) (if_neg (by decide)) (if_neg (by decide))
theorem pow_s (w : World) (ht : Tabs w) : Calls Tryz.prog 20 #[.string ⟨#[50]⟩, .int .i64 100] w (Ans ⟨#[49, 50, 54, 55, 54, 53, 48, 54, 48, 48, 50, 50, 56, 50, 50, 57, 52, 48, 49, 52, 57, 54, 55, 48, 51, 50, 48, 53, 51, 55, 54]⟩ 0 w) := by
  refine (numPow_c _ 100 (by decide) w ht).mono ?_
  intro e w' h
  have h1 := un_at h nl_2
  rw [show powOut 2 100 = textOut 1267650600228229401496703205376 from rfl] at h1
  exact ans_mk h1 (by decide +kernel) (by decide +kernel)
theorem root_s (w : World) (ht : Tabs w) : Calls Tryz.prog 33 #[.string ⟨#[57, 57]⟩] w (Ans ⟨#[57]⟩ 0 w) := by
  refine (numRoot_c _ w ht).mono ?_
  intro e w' h
  have h1 := un_at h nl_99
  rw [show rootOut 99 = textOut 9 from by rw [rootOut, if_neg (by decide), show root (99 : Int).natAbs = 9 from root_eq (by decide) (by decide)]; rfl] at h1
  exact ans_mk h1 (by decide +kernel) (by decide +kernel)
theorem tobase_s (w : World) (ht : Tabs w) : Calls Tryz.prog 36 #[.string ⟨#[45, 50, 53, 53]⟩, .int .i64 16] w (Ans ⟨#[45, 102, 102]⟩ 0 w) := by
  refine (numToBase_c _ 16 (by decide) (by decide) w ht).mono ?_
  intro e w' h
  obtain ⟨rfl, hb⟩ := un_at h nl_m255
  refine ⟨?_, hb⟩
  show Ending.returned (.tuple #[.string ⟨(btext 16 (-255)).toArray⟩, .int .i64 0]) = _
  rw [show btext 16 (-255) = [45, 102, 102] from by decide +kernel]
theorem frombase_s (w : World) (ht : Tabs w) : Calls Tryz.prog 37 #[.string ⟨#[122, 122]⟩, .int .i64 36] w (Ans ⟨#[49, 50, 57, 53]⟩ 0 w) := by
  refine (numFromBase_c _ 36 (by decide) (by decide) (by decide) w ht).mono ?_
  intro e w' h
  rcases h with ⟨_, rfl, hb⟩ | ⟨hn, _⟩
  · refine ⟨?_, hb⟩
    show Ending.returned ((textOut (fromB 36 [122, 122])).res (.string ⟨#[]⟩)) = _
    rw [show fromB 36 [122, 122] = 1295 from by decide +kernel, textOut_res]
    rw [show txt 1295 = ⟨#[49, 50, 57, 53]⟩ from by decide +kernel, show ern 1295 = 0 from by decide +kernel]
  · refine absurd ?_ hn
    refine ⟨by decide, by decide, ?_⟩
    intro c hc
    have : c = 122 := by simpa [Lib.trimPrefix, Lib.hasPrefix] using hc
    subst this
    exact ⟨35, by decide, by decide⟩
theorem valid007_s (w : World) : Calls Tryz.prog 52 #[.string ⟨#[48, 48, 55]⟩] w fun e w' => e = .returned (.bool false) ∧ Below w.heap.size w w' :=
  valid_at _ false w ⟨fun h => absurd h (by decide), fun h => absurd h nl_007⟩
theorem validm12_s (w : World) : Calls Tryz.prog 52 #[.string ⟨#[45, 49, 50]⟩] w fun e w' => e = .returned (.bool true) ∧ Below w.heap.size w w' :=
  valid_at _ true w ⟨fun _ => ⟨_, nl_m12⟩, fun _ => rfl⟩

/-- What Gcd says of 12 and 18. -/
def GcdS : Prop := ∀ w : World, Tabs w → Calls Tryz.prog 32 #[.string ⟨#[49, 50]⟩, .string ⟨#[49, 56]⟩] w fun e w' => e = .returned (.tuple #[.string ⟨#[54]⟩, .string ⟨#[50]⟩, .string ⟨#[45, 49]⟩, .int .i64 0]) ∧ Below w.heap.size w w'

set_option maxRecDepth 100000 in
set_option maxHeartbeats 4000000 in
theorem sanity_g (hg : GcdS) : San := by
  intro w ht
  have HT := Lib.hid ht
  have HG := Lib.hid hg
  have HB : Hid (Below w.heap.size w w) := Below.refl _ _
  clear ht hg
  go_enter Tryz.func18, Tryz.ntmps18
  go_wp2_with (first
  | (go_at_call 27; (refine (quo_s _ (HT.out.below HB.out)).mono ?_); rintro e W ⟨rfl, hbz⟩; have HB := Lib.hid (below_then' HB.out hbz); clear hbz)
  | (go_at_call 28; (refine (floor_s _ (HT.out.below HB.out)).mono ?_); rintro e W ⟨rfl, hbz⟩; have HB := Lib.hid (below_then' HB.out hbz); clear hbz)
  | (go_at_call 54; (refine (nines_c 200 (by decide) _).mono ?_); rintro e W ⟨rfl, rfl⟩)
  | (go_at_call 19; (refine (mul_s _ (HT.out.below HB.out)).mono ?_); rintro e W ⟨rfl, hbz⟩; have HB := Lib.hid (below_then' HB.out hbz); clear hbz)
  | (go_at_call 20; (refine (pow_s _ (HT.out.below HB.out)).mono ?_); rintro e W ⟨rfl, hbz⟩; have HB := Lib.hid (below_then' HB.out hbz); clear hbz)
  | (go_at_call 32; (refine (HG.out _ (HT.out.below HB.out)).mono ?_); rintro e W ⟨rfl, hbz⟩; have HB := Lib.hid (below_then' HB.out hbz); clear hbz)
  | (go_at_call 33; (refine (root_s _ (HT.out.below HB.out)).mono ?_); rintro e W ⟨rfl, hbz⟩; have HB := Lib.hid (below_then' HB.out hbz); clear hbz)
  | (go_at_call 36; (refine (tobase_s _ (HT.out.below HB.out)).mono ?_); rintro e W ⟨rfl, hbz⟩; have HB := Lib.hid (below_then' HB.out hbz); clear hbz)
  | (go_at_call 37; (refine (frombase_s _ (HT.out.below HB.out)).mono ?_); rintro e W ⟨rfl, hbz⟩; have HB := Lib.hid (below_then' HB.out hbz); clear hbz)
  | (go_at_call 52; (with_reducible refine (valid007_s _).mono ?_); rintro e W ⟨rfl, hbz⟩; have HB := Lib.hid (below_then' HB.out hbz); clear hbz)
  | (go_at_call 52; (with_reducible refine (validm12_s _).mono ?_); rintro e W ⟨rfl, hbz⟩; have HB := Lib.hid (below_then' HB.out hbz); clear hbz))
  go_ret
  exact ⟨rfl, HB.out⟩

end Go.Proofs.YtbjgpbdkofadiaaGreatDoor

namespace Go.Proofs.YtbjgpbdkofadiaaGreatDoor
set_option linter.unusedVariables false
set_option linter.unusedSimpArgs false
open Go.RowKit Go.Shelf Go.Proofs

theorem tx_txt {z : Int} (h : z.natAbs < 10 ^ 200) : tx z = txt z := by rw [txt, if_pos h]; rfl
theorem num_fit {z : Int} {s : ByteArray} (h : z.natAbs < 10 ^ 200) (hs : txt z = s) : NumL s.data.toList z := num_of hs (ern_fit h) rfl
where ern_fit {z : Int} (h : z.natAbs < 10 ^ 200) : ern z = 0 := if_pos h
theorem ern_fit {z : Int} (h : z.natAbs < 10 ^ 200) : ern z = 0 := if_pos h

/-- A call answers with two texts and the error k. -/
def Ans2 (s t : ByteArray) (k : Int) (w : World) (e : Ending) (w' : World) : Prop := e = .returned (.tuple #[.string s, .string t, .int .i64 k]) ∧ Below w.heap.size w w'

theorem div_at {S T : ByteArray} {Q R : Int → Int → Int} {w w' : World} {e : Ending} {x y : Int} (h : DivA S T Q R w e w') (hx : NumL S.data.toList x) (hy : NumL T.data.toList y) : e = .returned (three (divOut (Q x y) (R x y) y)) ∧ Below w.heap.size w w' := by
  obtain ⟨h, hb⟩ := h
  rcases h with ⟨x', y', hx', hy', rfl⟩ | ⟨hn, _⟩
  · rw [itoa_inj (hx.1.symm.trans hx'.1), itoa_inj (hy.1.symm.trans hy'.1)]; exact ⟨rfl, hb⟩
  · exact absurd ⟨⟨x, hx⟩, y, hy⟩ hn
theorem divOut_ok {Q R y : Int} (hy : y ≠ 0) (hQ : Q.natAbs < 10 ^ 200) : divOut Q R y = .ok (.agg #[.string (tx Q), .string (tx R)]) := by
  rw [divOut, if_neg hy, if_pos hQ]
theorem divOut_none {Q R : Int} : divOut Q R 0 = .err 5 := if_pos rfl
theorem divOut_big {Q R y : Int} (hy : y ≠ 0) (hQ : ¬ Q.natAbs < 10 ^ 200) : divOut Q R y = .err 3 := by
  rw [divOut, if_neg hy, if_neg hQ]
theorem tdiv_fit {x y : Int} (hx : x.natAbs < 10 ^ 200) : (x.tdiv y).natAbs < 10 ^ 200 := by
  rw [Int.natAbs_tdiv]; exact Nat.lt_of_le_of_lt (Nat.div_le_self _ _) hx
theorem tmod_fit {x y : Int} (hx : x.natAbs < 10 ^ 200) : (x.tmod y).natAbs < 10 ^ 200 := by
  rw [Int.natAbs_tmod]; exact Nat.lt_of_le_of_lt (Nat.mod_le _ _) hx
theorem fmod_neg_rng (x : Int) {y : Int} (h : y < 0) : x.fmod y ≤ 0 ∧ y < x.fmod y := by
  have h1 : x.fmod y = -(-x).fmod (-y) := by rw [Int.neg_fmod_neg, Int.neg_neg]
  have h2 := Int.fmod_nonneg_of_pos (-x) (b := -y) (by omega)
  have h3 := Int.fmod_lt_of_pos (-x) (b := -y) (by omega)
  omega
theorem tmod_np {x : Int} (y : Int) (h : x ≤ 0) : x.tmod y ≤ 0 := by
  have h1 : x.tmod y = -(-x).tmod y := by rw [Int.neg_tmod, Int.neg_neg]
  have h2 := Int.tmod_nonneg y (a := -x) (by omega)
  omega
theorem sq_nonneg (x : Int) : 0 ≤ x * x := by
  rcases Int.le_total 0 x with h | h
  · exact Int.mul_nonneg h h
  · exact Int.mul_nonneg_of_nonpos_of_nonpos h h
theorem fmod_fit {x y : Int} (hy0 : y ≠ 0) (hy : y.natAbs < 10 ^ 200) : (x.fmod y).natAbs < 10 ^ 200 := by
  rcases Int.lt_or_gt_of_ne hy0 with h | h
  · have h1 := fmod_neg_rng x h
    omega
  · have h1 := Int.fmod_nonneg_of_pos x h
    have h2 := Int.fmod_lt_of_pos x h
    omega

section
variable (S T : ByteArray) (x y n : Int) (s t : ByteArray) (k : Int) (w : World)
theorem law_pow (hS : NumL S.data.toList x) (hn : 0 ≤ n) (hn2 : n ≤ 9223372036854775807) (hs : txt (x ^ n.toNat) = s) (hk : ern (x ^ n.toNat) = k) (ht : Tabs w) : Calls Tryz.prog 20 #[.string S, .int .i64 n] w (Ans s k w) :=
  (numPow_c S n hn2 w ht).mono fun _ _ h => by
    have h1 := un_at (f := fun x => powOut x n) h hS
    have h2 : powOut x n = textOut (x ^ n.toNat) := if_neg (by omega)
    simp only [h2] at h1
    exact ans_mk h1 hs hk
theorem law_root (hS : NumL S.data.toList x) (hx : 0 ≤ x) (hs : txt (root x.natAbs : Int) = s) (hk : ern (root x.natAbs : Int) = k) (ht : Tabs w) : Calls Tryz.prog 33 #[.string S] w (Ans s k w) :=
  (numRoot_c S w ht).mono fun _ _ h => by
    have h1 := un_at h hS
    rw [rootOut, if_neg (by omega)] at h1
    exact ans_mk h1 hs hk
theorem law_root_neg (hS : NumL S.data.toList x) (hx : x < 0) (ht : Tabs w) : Calls Tryz.prog 33 #[.string S] w (Ans ⟨#[]⟩ 5 w) :=
  (numRoot_c S w ht).mono fun _ _ h => by
    have h1 := un_at h hS
    rw [rootOut, if_pos hx] at h1
    exact h1
theorem law_quo (hS : NumL S.data.toList x) (hT : NumL T.data.toList y) (hy : y ≠ 0) (hs : txt (x.tdiv y) = s) (hr : txt (x.tmod y) = t) (ht : Tabs w) : Calls Tryz.prog 27 #[.string S, .string T] w (Ans2 s t 0 w) :=
  (numQuo_c S T w ht).mono fun _ _ h => by
    have h1 := div_at h hS hT
    simp only [divOut_ok hy (tdiv_fit (y := y) hS.2), tx_txt (tdiv_fit (y := y) hS.2), tx_txt (tmod_fit (y := y) hS.2), hs, hr] at h1
    exact h1
theorem law_quo_none (hS : NumL S.data.toList x) (hT : NumL T.data.toList 0) (ht : Tabs w) : Calls Tryz.prog 27 #[.string S, .string T] w (Ans2 ⟨#[]⟩ ⟨#[]⟩ 5 w) :=
  (numQuo_c S T w ht).mono fun _ _ h => by
    have h1 := div_at h hS hT
    simp only [divOut_none] at h1
    exact h1
theorem law_floor (hS : NumL S.data.toList x) (hT : NumL T.data.toList y) (hy : y ≠ 0) (hf : (x.fdiv y).natAbs < 10 ^ 200) (hs : txt (x.fdiv y) = s) (hr : txt (x.fmod y) = t) (ht : Tabs w) : Calls Tryz.prog 28 #[.string S, .string T] w (Ans2 s t 0 w) :=
  (numFloor_c S T w ht).mono fun _ _ h => by
    have h1 := div_at h hS hT
    simp only [divOut_ok hy hf, tx_txt hf, tx_txt (fmod_fit (x := x) hy hT.2), hs, hr] at h1
    exact h1
theorem law_floor_big (hS : NumL S.data.toList x) (hT : NumL T.data.toList y) (hy : y ≠ 0) (hf : ¬ (x.fdiv y).natAbs < 10 ^ 200) (ht : Tabs w) : Calls Tryz.prog 28 #[.string S, .string T] w (Ans2 ⟨#[]⟩ ⟨#[]⟩ 3 w) :=
  (numFloor_c S T w ht).mono fun _ _ h => by
    have h1 := div_at h hS hT
    simp only [divOut_big hy hf] at h1
    exact h1
theorem law_floor_none (hS : NumL S.data.toList x) (hT : NumL T.data.toList 0) (ht : Tabs w) : Calls Tryz.prog 28 #[.string S, .string T] w (Ans2 ⟨#[]⟩ ⟨#[]⟩ 5 w) :=
  (numFloor_c S T w ht).mono fun _ _ h => by
    have h1 := div_at h hS hT
    simp only [divOut_none] at h1
    exact h1
theorem law_tobase (b : Nat) (hS : NumL S.data.toList x) (hb : 2 ≤ b) (hb2 : b ≤ 36) (hs : ⟨(btext b x).toArray⟩ = s) (ht : Tabs w) : Calls Tryz.prog 36 #[.string S, .int .i64 (b : Int)] w (Ans s 0 w) :=
  (numToBase_c S b hb hb2 w ht).mono fun _ _ h => by
    have h1 := un_at h hS
    rw [← hs]
    exact h1
theorem law_frombase (b : Nat) (hb : 2 ≤ b) (hb2 : b ≤ 36) (hS : S.size ≤ 1000) (hf : formB b S.data.toList) (hx : fromB b S.data.toList = x) (hs : txt x = s) (hk : ern x = k) (ht : Tabs w) : Calls Tryz.prog 37 #[.string S, .int .i64 (b : Int)] w (Ans s k w) :=
  (numFromBase_c S b hb hb2 hS w ht).mono fun _ _ h => by
    rcases h with ⟨_, h1, h2⟩ | ⟨hn, _⟩
    · rw [hx] at h1; exact ans_mk ⟨h1, h2⟩ hs hk
    · exact absurd hf hn
theorem law_frombase_form (b : Nat) (hb : 2 ≤ b) (hb2 : b ≤ 36) (hS : S.size ≤ 1000) (hf : ¬ formB b S.data.toList) (ht : Tabs w) : Calls Tryz.prog 37 #[.string S, .int .i64 (b : Int)] w (Ans ⟨#[]⟩ 7 w) :=
  (numFromBase_c S b hb hb2 hS w ht).mono fun _ _ h => by
    rcases h with ⟨h1, _⟩ | ⟨_, h1⟩
    · exact absurd h1 hf
    · exact h1
theorem law_fromint (hn : -9223372036854775808 ≤ n) (hn2 : n ≤ 9223372036854775807) (hs : txt n = s) (ht : Tabs w) : Calls Tryz.prog 50 #[.int .i64 n] w fun e w' => e = .returned (.string s) ∧ Below w.heap.size w w' :=
  (fromInt_c n hn hn2 w ht).mono fun _ _ ⟨h1, h2⟩ => by
    refine ⟨?_, h2⟩
    rw [h1, ← hs, txt, if_pos (by omega)]
end
end Go.Proofs.YtbjgpbdkofadiaaGreatDoor

namespace Go.Proofs.YtbjgpbdkofadiaaGreatDoor
set_option linter.unusedVariables false
set_option linter.unusedSimpArgs false
open Go.RowKit Go.Shelf Go.Proofs

theorem num_one : NumL [49] 1 := ⟨by decide +kernel, by decide⟩
section
variable (S T : ByteArray) (x y g : Int) (w : World)
theorem law_sign_at (hS : NumL S.data.toList x) (hg : sgn x = g) (ht : Tabs w) : Calls Tryz.prog 48 #[.string S] w (AnsI g w) := hg ▸ law_sign S x w hS ht
theorem law_cmp_at (hS : NumL S.data.toList x) (hT : NumL T.data.toList y) (hg : sgn (x + -y) = g) (ht : Tabs w) : Calls Tryz.prog 45 #[.string S, .string T] w (AnsI g w) := hg ▸ law_cmp S T x y w hS hT ht
theorem law_toint (hS : NumL S.data.toList x) (h0 : -9223372036854775808 ≤ x) (h1 : x ≤ 9223372036854775807) (ht : Tabs w) : Calls Tryz.prog 51 #[.string S] w (AnsI x w) :=
  (toInt_c S w ht).mono fun _ _ h => by
    obtain ⟨h, hb⟩ := h
    rcases h with ⟨z, hz, rfl⟩ | ⟨hn, _⟩
    · obtain rfl := itoa_inj (hS.1.symm.trans hz.1)
      refine ⟨?_, hb⟩
      rw [toIntRes, if_pos ⟨h0, h1⟩]
    · exact absurd ⟨x, hS⟩ hn
end
theorem sg_pos {x : Int} (h : 0 < x) : sgn x = 1 := by unfold sgn; rw [if_neg (by omega), if_pos h]
theorem sg_neg {x : Int} (h : x < 0) : sgn x = -1 := by unfold sgn; rw [if_pos h]
theorem sg_zero : sgn 0 = 0 := by unfold sgn; rfl
theorem sg_rng (x : Int) : -1 ≤ sgn x ∧ sgn x ≤ 1 := by
  rcases Int.lt_trichotomy x 0 with h | h | h
  · rw [sg_neg h]; omega
  · rw [h, sg_zero]; omega
  · rw [sg_pos h]; omega
theorem sg_lt {x : Int} : sgn x < 0 ↔ x < 0 := by
  rcases Int.lt_trichotomy x 0 with h | h | h
  · rw [sg_neg h]; omega
  · rw [h, sg_zero]
  · rw [sg_pos h]; omega
theorem sg_gt {x : Int} : 0 < sgn x ↔ 0 < x := by
  rcases Int.lt_trichotomy x 0 with h | h | h
  · rw [sg_neg h]; omega
  · rw [h, sg_zero]
  · rw [sg_pos h]; omega
theorem sg_eq {x : Int} : sgn x = 0 ↔ x = 0 := by
  rcases Int.lt_trichotomy x 0 with h | h | h
  · rw [sg_neg h]; omega
  · rw [h, sg_zero]
  · rw [sg_pos h]; omega
theorem sg_opp (x : Int) : sgn (-x) = -sgn x := by
  rcases Int.lt_trichotomy x 0 with h | h | h
  · rw [sg_neg h, sg_pos (by omega)]; rfl
  · subst h; rfl
  · rw [sg_pos h, sg_neg (by omega)]
end Go.Proofs.YtbjgpbdkofadiaaGreatDoor

