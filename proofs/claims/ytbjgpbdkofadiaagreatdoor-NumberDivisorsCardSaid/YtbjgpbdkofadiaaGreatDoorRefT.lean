/- The reference's Root. -/
import Derived.Test.YtbjgpbdkofadiaaGreatDoorRefO
namespace Go.Proofs.YtbjgpbdkofadiaaGreatDoor
set_option linter.unusedVariables false
set_option linter.unusedSimpArgs false
open Go.RowKit Go.Shelf

/-- One step of a root's digit. -/
theorem root_fin {n R : Nat} (h1 : R * R ≤ n) (h2 : n < (R + 1) * (R + 1)) : root n = R := root_eq h1 h2
theorem root_top {n L k : Nat} (h : n < 10 ^ k) (hk : k ≤ 2 * L) : n < (0 + 10 ^ L) * (0 + 10 ^ L) := by
  rw [Nat.zero_add, ← Nat.pow_add]
  exact Nat.lt_of_lt_of_le h (Nat.pow_le_pow_right (by decide) (by omega))
theorem val_inc {l : List Int} {i : Nat} {d : Int} (hi : i < l.length) (hd : l[i]?.getD 0 = d) (x : Int) : val 10 (l.set i (d + x)) = val 10 l + (10 : Int) ^ i * x := by
  rw [val_set _ _ _ _ hi, List.getD_eq_getElem?_getD, hd]
  rw [show d + x - d = x by omega]
  rfl

set_option maxRecDepth 100000 in
set_option maxHeartbeats 4000000 in
theorem rroot_c (v1 : Value) (n : Nat) (w : World) (h1 : Dg 10 w v1 n) (hm : (dg 10 n).length ≤ 400000) :
    Calls Tryz.prog 34 #[v1] w (DgP 10 (root n) w) := by
  have HA0 := Lib.hid h1
  obtain ⟨A1, c1, rfl, hc1, _, hr1⟩ := h1
  obtain ⟨L, hL⟩ : ∃ L, (dg 10 n).length = L := ⟨_, rfl⟩
  rw [hL] at HA0 hc1 hm ⊢
  have HL := Lib.hid hL
  obtain ⟨M, hM⟩ : ∃ M, (L + 1) / 2 = M := ⟨_, rfl⟩
  have HM := Lib.hid hM
  have hM2 : L ≤ 2 * M := by omega
  have hM3 : M ≤ 200001 := by omega
  have hmk := make_nat M (M : Int) rfl (by omega)
  have hMi : ((L : Int) + 1) / 2 = (M : Int) := by omega
  have HTOP : Hid (n < (0 + 10 ^ M) * (0 + 10 ^ M)) := root_top (k := L) (by rw [← hL]; exact lt_pow_length (by decide) n) hM2
  clear hr1 hc1 hL hM
  go_enter Tryz.func34, Tryz.ntmps34
  go_wp2_with fail
  clear hmk hMi
  have hown0 := own_zeros w M (by omega)
  have hB0 := (Below.refl w.heap.size w).alloc (Nat.le_refl _) (.cells (madeCells #[.int .i64 0] M) 3)
  generalize w.alloc (.cells (madeCells #[.int .i64 0] M) 3) = w0 at *
  have HB0 := Lib.hid hB0
  have HO0 := Lib.hid hown0
  clear hB0 hown0
  go_loopg [4, 5] M (fun g iv tv wr => ∃ (lr : List Int) (R : Nat), iv = .int .i64 ((g : Int) - 1) ∧ g ≤ M ∧ Hid (wr.ownsRow w.heap.size 3 1 (.slice (some ⟨w.heap.size, 0, none⟩) M M) M (lr.map (Value.int .i64)))
      ∧ Hid (lr.length = M ∧ InR 10 lr ∧ (∀ j, j < g → lr[j]?.getD 0 = 0) ∧ val 10 lr = (R : Int) ∧ R * R ≤ n ∧ n < (R + 10 ^ g) * (R + 10 ^ g)) ∧ Hid (Below w.heap.size w wr))
  case atStart => exact ⟨List.replicate M 0, 0, rfl, Nat.le_refl _, HO0.out, ⟨by simp, InR.replicate (by decide) _, fun j _ => by rw [List.getElem?_replicate]; split <;> rfl, by simp [val_replicate], by omega, HTOP.out⟩, HB0.out⟩
  case round =>
    obtain ⟨lr, R, rfl, hg, HO, HV, HB⟩ := hrel
    by_cases hg0 : gk = 0
    · subst hg0
      obtain ⟨hll, hli, hlz, hlv, hr1, hr2⟩ := HV.out
      rw [Nat.pow_zero] at hr2
      have HRT := Lib.hid (root_fin hr1 hr2)
      obtain ⟨A, c, hve, hlc, hcm, hrow, hln⟩ := own_row HO.out
      obtain ⟨rfl, -, rfl⟩ := Value.slice.inj hve
      have HROW := Lib.hid hrow; have HIN := Lib.hid hli; have HVL := Lib.hid hlv; have HLL := Lib.hid hll
      have hcm' : M ≤ 9223372036854775807 := by omega
      have hlc' : lr.length ≤ M := hlc
      clear hll hli hlz hlv hr1 hr2 hve hlc hcm hrow hln
      go_wp2_with (go_at_call 61; rw [show (Value.slice (some ⟨w.heap.size, 0, none⟩) M M) = Value.slice (some ⟨w.heap.size, 0, none⟩) lr.length M from by rw [HLL.out]]; refine (trim_c _ M lr wr HROW.out hlc' hcm').mono ?_; intro e w1 hcut; obtain ⟨rfl, v, rfl, hdg, hblk⟩ := cut_dg (b := 10) (by decide) HROW.out hlc' hcm' HIN.out HVL.out hcut; have HDG := Lib.hid hdg; have HF9 : Hid (FromB w.heap.size v) := (fun k hk => by obtain ⟨a, ha, rfl⟩ := hblk k hk; cases ha; exact Nat.le_refl _); clear hdg hblk hcut)
      go_ret
      exact ⟨v, rfl, by rw [HRT.out]; exact HDG.out, HF9.out, HB.out⟩
    · obtain ⟨g, rfl⟩ : ∃ g, gk = g + 1 := ⟨gk - 1, by omega⟩
      rw [show (((g + 1 : Nat) : Int) - 1) = (g : Int) by omega]
      have hlt : g < M := by omega
      have j0 : (0 : Int) ≤ (g : Int) := by omega
      have j1 : (g : Int) < (M : Int) := by omega
      have HRV := HV.out.2.2.2.2.1
      go_wp2_with fail
      go_loopg [5] 9 (fun gd tv w3 => ∃ (lr2 : List Int) (d : Nat), d + gd = 9 ∧ Hid (w3.ownsRow w.heap.size 3 1 (.slice (some ⟨w.heap.size, 0, none⟩) M M) M (lr2.map (Value.int .i64)))
          ∧ Hid (lr2.length = M ∧ InR 10 lr2 ∧ (∀ j, j < g → lr2[j]?.getD 0 = 0) ∧ lr2[g]?.getD 0 = (d : Int) ∧ val 10 lr2 = ((R + d * 10 ^ g : Nat) : Int) ∧ (R + d * 10 ^ g) * (R + d * 10 ^ g) ≤ n) ∧ Hid (Below w.heap.size w w3))
      case atStart =>
        obtain ⟨hll, hli, hlz, hlv, hr1, hr2⟩ := HV.out
        exact ⟨lr, 0, rfl, HO.out, ⟨hll, hli, fun j hj => hlz j (by omega), by rw [hlz g (by omega)]; rfl, by rw [hlv]; simp, by simpa using hr1⟩, HB.out⟩
      case round =>
        obtain ⟨lr2, d, hd, HO2, HV2, HB2⟩ := hrel
        obtain ⟨hll, hli, hlz, hlg, hlv, hr1⟩ := HV2.out
        have hcg : wr.cell? ⟨w.heap.size, g, none⟩ = some (.int .i64 (d : Int)) := by rw [own_cell HO2.out g hlt hll, hlg]
        have hfg : wr.frozen? ⟨w.heap.size, g, none⟩ = false := HO2.out.frozenAt g
        have h10 : 10 ^ (g + 1) = 10 * 10 ^ g := by rw [Nat.pow_succ]; omega
        by_cases hgd : gk = 0
        · subst hgd
          obtain rfl : d = 9 := by omega
          clear hll hli hlz hlg hlv hr1 hd
          go_wp2_with fail
          go_roundg g
          case measure => omega
          case rel =>
            obtain ⟨hll, hli, hlz, hlg, hlv, hr1⟩ := HV2.out
            refine ⟨lr2, R + 9 * 10 ^ g, rfl, by omega, HO2.out, ⟨hll, hli, hlz, hlv, hr1, ?_⟩, HB2.out⟩
            have h2 := HV.out.2.2.2.2.2
            rw [h10] at h2
            rw [show R + 9 * 10 ^ g + 10 ^ g = R + 10 * 10 ^ g by omega]; exact h2
        · obtain ⟨gd, rfl⟩ : ∃ gd, gk = gd + 1 := ⟨gk - 1, by omega⟩
          have hd9 : d < 9 := by omega
          have h3 := store_own HO2.out g ((d : Int) + 1)
          have hv3 : val 10 (lr2.set g ((d : Int) + 1)) = ((R + (d + 1) * 10 ^ g : Nat) : Int) := by
            rw [val_inc (by omega) hlg, hlv]
            simp only [Int.natCast_add, Int.natCast_mul, Int.natCast_pow]
            rw [Int.add_mul, show ((1 : Nat) : Int) = 1 from rfl, show ((10 : Nat) : Int) = 10 from rfl]; omega
          obtain ⟨R3, hR3⟩ : ∃ R3, R + (d + 1) * 10 ^ g = R3 := ⟨_, rfl⟩
          rw [hR3] at hv3
          have hi3 : InR 10 (lr2.set g ((d : Int) + 1)) := hli.set _ (by omega) (show (d : Int) + 1 < 10 from by omega)
          have hl3 : (lr2.set g ((d : Int) + 1)).length = M := by simpa using hll
          have hz3 : ∀ j, j < g → (lr2.set g ((d : Int) + 1))[j]?.getD 0 = 0 := fun j hj => by rw [List.getElem?_set_ne (by omega)]; exact hlz j hj
          have hg3 : (lr2.set g ((d : Int) + 1))[g]?.getD 0 = (d : Int) + 1 := by rw [List.getElem?_set_self (by omega)]; rfl
          have HLR : Hid ((dg 10 R3).length ≤ M) := (dg_length_le (by decide) _ _).2 (by
            have h := val_lt hi3
            rw [hv3, hl3] at h
            exact_mod_cast h)
          have hb3 := HB2.out.setCell (p := ⟨w.heap.size, g, none⟩) (Nat.le_refl _) (.int .i64 ((d : Int) + 1))
          have HR3 := Lib.hid hR3
          have HD := Lib.hid hd
          have HV3 := Lib.hid (And.intro hl3 (And.intro hi3 (And.intro hz3 (And.intro hg3 hv3))))
          have HO3 := Lib.hid h3; have HB3 := Lib.hid hb3
          have HLG := Lib.hid hlg; have HLV := Lib.hid hlv; have HLL := Lib.hid hll; have HR1 := Lib.hid hr1; have HLI := Lib.hid hli; have HLZ := Lib.hid hlz; have H10 := Lib.hid h10
          clear hll hli hlz hlg hlv hr1 h3 hv3 hR3 hi3 hl3 hz3 hg3 hb3 hd h10 HRV
          go_upto_region 7 with fail
          obtain ⟨W3, hW3⟩ : ∃ W3, wr.setCell ⟨w.heap.size, g, none⟩ (.int .i64 ((d : Int) + 1)) = W3 := ⟨_, rfl⟩
          rw [hW3]
          have HO3 : Hid (W3.ownsRow w.heap.size 3 1 (.slice (some ⟨w.heap.size, 0, none⟩) M M) M ((lr2.set g ((d : Int) + 1)).map (Value.int .i64))) := by show W3.ownsRow _ _ _ _ _ _; rw [← hW3]; exact HO3.out
          have HB3 : Hid (Below w.heap.size w W3) := by show Below _ _ W3; rw [← hW3]; exact HB3.out
          clear hW3 hcg hfg
          obtain ⟨l3, hl3e⟩ : ∃ l3, lr2.set g ((d : Int) + 1) = l3 := ⟨_, rfl⟩
          have HL3E := Lib.hid hl3e
          have HO3' : Hid (W3.ownsRow w.heap.size 3 1 (.slice (some ⟨w.heap.size, 0, none⟩) M M) M (l3.map (Value.int .i64))) := by show W3.ownsRow _ _ _ _ _ _; rw [← hl3e]; exact HO3.out
          have HV3' : Hid (l3.length = M ∧ InR 10 l3 ∧ (∀ j, j < g → l3[j]?.getD 0 = 0) ∧ l3[g]?.getD 0 = (d : Int) + 1 ∧ val 10 l3 = (R3 : Int)) := by show _ ∧ _; rw [← hl3e]; exact HV3.out
          clear hl3e HO3 HV3
          obtain ⟨A', c', hve, -, -, hrow, -⟩ := own_row HO3'.out
          obtain ⟨rfl, -, -⟩ := Value.slice.inj hve
          have HROW := Lib.hid (hrow.alloc (.cells #[] 3))
          have hsz : w.heap.size < W3.heap.size := (HO3'.out.lt _ rfl).2
          clear hve hrow
          have HLN : Hid ((dg 10 n).length ≤ 1000000) := by show _ ≤ _; rw [HL.out]; omega
          have HLR1 : Hid ((dg 10 R3).length ≤ 1000000) := by have := HLR.out; show _ ≤ _; omega
          have HLR2 : Hid ((dg 10 (R3 * R3)).length ≤ 1000000) := by
            have h := HLR.out
            refine Nat.le_trans ((dg_length_le (b := 10) (by decide) (R3 * R3) (M + M)).2 ?_) (by omega)
            rw [Nat.pow_add]
            have h2 := (dg_length_le (b := 10) (by decide) _ _).1 h
            exact Nat.mul_lt_mul'' h2 h2
          obtain ⟨s, hsn⟩ : ∃ s, sgn (((R3 * R3 : Nat) : Int) - (n : Int)) = s := ⟨_, rfl⟩
          have HSN := Lib.hid hsn
          by_cases hle : R3 * R3 ≤ n
          · have hs0 : ¬ 0 < s := by
              rw [← hsn]; intro h
              unfold sgn at h
              split at h
              · omega
              · split at h <;> omega
            have HLE := Lib.hid hle
            clear hsn hle
            go_wp2_with (first
              | (at_builtin; refine append_nat _ rfl _ _ rfl W3.heap.size _ 0 [] rfl (World.ownsRow_lit (e := 3) (size := 1) W3 #[] 0 (Nat.le_refl _) (by decide) (by simp)) (some ⟨w.heap.size, 0, none⟩) M l3 (by rw [HV3'.out.1]; rfl) HROW.out (by rw [HV3'.out.1]; omega) (by simp) ?_; intro v4 w1 hown1 hgrow1; have HBW : Hid (Below W3.heap.size W3 w1) := ((Below.refl _ _).alloc (Nat.le_refl _) _).grown hgrow1 (by simp) (fun k hk => by cases hk; exact Nat.le_refl _); obtain ⟨A4, c4, rfl, hlc4, hcm4, hrow4, hln4⟩ := own_row hown1; have HF4 := Lib.hid (own_from hown1); have HROW4 := Lib.hid hrow4; have HLC4 := Lib.hid hlc4; have HCM4 := Lib.hid (show c4 ≤ 9223372036854775807 from by unfold maxLen at hcm4; omega); clear hown1 hgrow1 hrow4 hlc4 hcm4 hln4)
              | (go_at_call 61; refine (trim_c A4 c4 _ w1 HROW4.out HLC4.out HCM4.out).mono ?_; intro e w' hcut; obtain ⟨rfl, v5, rfl, hdg, hblk⟩ := cut_dg (b := 10) (by decide) HROW4.out HLC4.out HCM4.out (show InR 10 ([] ++ l3) from HV3'.out.2.1) (show val 10 ([] ++ l3) = (R3 : Int) from HV3'.out.2.2.2.2) hcut; have HDG := Lib.hid hdg; clear hdg hblk hcut)
              | (go_at_call 63; (with_reducible refine (natMul_c _ _ R3 R3 _ HDG.out HDG.out HLR1.out HLR1.out).mono ?_); rintro e W5 ⟨u, rfl, hu, hfu, hbz⟩; have HU := Lib.hid hu; have HBM := Lib.hid hbz; clear hu hfu hbz)
              | (go_at_call 78; (with_reducible refine (natCmp_c _ _ (R3 * R3) n _ HU.out (HA0.out.below (below_then' (below_then HB3.out HBW.out (by omega)) HBM.out)) HLR2.out HLN.out).mono ?_); rintro e W6 ⟨he, hbz⟩; rw [HSN.out] at he; subst he; have HB6 : Hid (Below W3.heap.size W3 W6) := Lib.hid (below_then' (below_then' HBW.out HBM.out) hbz); clear hbz; have HO6 := Lib.hid (own_below HO3'.out HB6.out); have hc6 : W6.cell? ⟨w.heap.size, g, none⟩ = some (.int .i64 ((d : Int) + 1)) := (by rw [own_cell HO6.out g hlt HV3'.out.1, HV3'.out.2.2.2.1]); have hf6 : W6.frozen? ⟨w.heap.size, g, none⟩ = false := HO6.out.frozenAt g))
            go_roundg gd
            case measure => omega
            case rel =>
              obtain ⟨v1, v2, v3, v4, v5⟩ := HV3'.out
              refine ⟨l3, d + 1, by have := HD.out; omega, HO6.out, ⟨v1, v2, v3, v4, by rw [v5, HR3.out], by rw [HR3.out]; exact HLE.out⟩, below_then HB3.out HB6.out (by omega)⟩
          · have hs0 : 0 < s := by rw [← hsn, sgn_gt (by omega)]; decide
            have HLE := Lib.hid hle
            clear hsn hle
            go_wp2_with (first
              | (at_builtin; refine append_nat _ rfl _ _ rfl W3.heap.size _ 0 [] rfl (World.ownsRow_lit (e := 3) (size := 1) W3 #[] 0 (Nat.le_refl _) (by decide) (by simp)) (some ⟨w.heap.size, 0, none⟩) M l3 (by rw [HV3'.out.1]; rfl) HROW.out (by rw [HV3'.out.1]; omega) (by simp) ?_; intro v4 w1 hown1 hgrow1; have HBW : Hid (Below W3.heap.size W3 w1) := ((Below.refl _ _).alloc (Nat.le_refl _) _).grown hgrow1 (by simp) (fun k hk => by cases hk; exact Nat.le_refl _); obtain ⟨A4, c4, rfl, hlc4, hcm4, hrow4, hln4⟩ := own_row hown1; have HF4 := Lib.hid (own_from hown1); have HROW4 := Lib.hid hrow4; have HLC4 := Lib.hid hlc4; have HCM4 := Lib.hid (show c4 ≤ 9223372036854775807 from by unfold maxLen at hcm4; omega); clear hown1 hgrow1 hrow4 hlc4 hcm4 hln4)
              | (go_at_call 61; refine (trim_c A4 c4 _ w1 HROW4.out HLC4.out HCM4.out).mono ?_; intro e w' hcut; obtain ⟨rfl, v5, rfl, hdg, hblk⟩ := cut_dg (b := 10) (by decide) HROW4.out HLC4.out HCM4.out (show InR 10 ([] ++ l3) from HV3'.out.2.1) (show val 10 ([] ++ l3) = (R3 : Int) from HV3'.out.2.2.2.2) hcut; have HDG := Lib.hid hdg; clear hdg hblk hcut)
              | (go_at_call 63; (with_reducible refine (natMul_c _ _ R3 R3 _ HDG.out HDG.out HLR1.out HLR1.out).mono ?_); rintro e W5 ⟨u, rfl, hu, hfu, hbz⟩; have HU := Lib.hid hu; have HBM := Lib.hid hbz; clear hu hfu hbz)
              | (go_at_call 78; (with_reducible refine (natCmp_c _ _ (R3 * R3) n _ HU.out (HA0.out.below (below_then' (below_then HB3.out HBW.out (by omega)) HBM.out)) HLR2.out HLN.out).mono ?_); rintro e W6 ⟨he, hbz⟩; rw [HSN.out] at he; subst he; have HB6 : Hid (Below W3.heap.size W3 W6) := Lib.hid (below_then' (below_then' HBW.out HBM.out) hbz); clear hbz; have HO6 := Lib.hid (own_below HO3'.out HB6.out); have hc6 : W6.cell? ⟨w.heap.size, g, none⟩ = some (.int .i64 ((d : Int) + 1)) := (by rw [own_cell HO6.out g hlt HV3'.out.1, HV3'.out.2.2.2.1]); have hf6 : W6.frozen? ⟨w.heap.size, g, none⟩ = false := HO6.out.frozenAt g))
            go_roundg g
            case measure => omega
            case rel =>
              have e3 : l3.set g (d : Int) = lr2 := by
                rw [← HL3E.out, List.set_set]
                have h := HLG.out
                rw [List.getElem?_eq_getElem (by rw [HLL.out]; exact hlt)] at h
                have h' : lr2[g]'(by rw [HLL.out]; exact hlt) = (d : Int) := h
                rw [← h', List.set_getElem_self]
              have h1 := store_own HO6.out g (d : Int)
              rw [e3] at h1
              refine ⟨lr2, R + d * 10 ^ g, rfl, by omega, h1, ⟨HLL.out, HLI.out, HLZ.out, HLV.out, HR1.out, ?_⟩, (below_then HB3.out HB6.out (by omega)).setCell (p := ⟨w.heap.size, g, none⟩) (Nat.le_refl _) _⟩
              have h2 := HLE.out
              rw [← HR3.out, show R + (d + 1) * 10 ^ g = R + d * 10 ^ g + 10 ^ g by rw [Nat.succ_mul]; omega] at h2
              exact Nat.lt_of_not_le h2
end Go.Proofs.YtbjgpbdkofadiaaGreatDoor
