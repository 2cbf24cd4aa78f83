/- The reference's ToBase. -/
import Derived.Test.YtbjgpbdkofadiaaGreatDoorRefO
import Derived.Test.YtbjgpbdkofadiaaGreatDoorRefR
namespace Go.Proofs.YtbjgpbdkofadiaaGreatDoor
set_option linter.unusedVariables false
set_option linter.unusedSimpArgs false
open Go.RowKit Go.Shelf

/-- The signs' text, cut at one place. -/
theorem sign_cut : ∀ k : Fin 36, ((ByteArray.mk #[48, 49, 50, 51, 52, 53, 54, 55, 56, 57, 97, 98, 99, 100, 101, 102, 103, 104, 105, 106, 107, 108, 109, 110, 111, 112, 113, 114, 115, 116, 117, 118, 119, 120, 121, 122]).extract k.1 (k.1 + 1)).data.toList = [chr k.1] := by decide +kernel

theorem bdig_len4 {b N k : Nat} (hb : 2 ≤ b) (h : N < 10 ^ k) : (dg b N).length ≤ 4 * k :=
  len_pow (m := 4) (n := k) hb (Nat.lt_of_lt_of_le h (Nat.pow_le_pow_left (Nat.le_trans (by decide) (Nat.pow_le_pow_left hb 4)) k))
theorem dg_len {b : Nat} {w : World} {A : Option Addr} {n c m : Nat} (h : Dg b w (.slice A n c) m) : n = (dg b m).length := by
  obtain ⟨A', c', e, -⟩ := h
  exact (Value.slice.inj e).2.1

set_option maxRecDepth 100000 in
set_option maxHeartbeats 4000000 in
theorem rtobase_c (v : Value) (x : Int) (b : Nat) (w : World) (h : Ri w v x) (hl : (dg 10 x.natAbs).length ≤ 900000) (hb : 2 ≤ b) (hb2 : b ≤ 36) :
    Calls Tryz.prog 38 #[v, .int .i64 (b : Int)] w fun e w' => e = .returned (.string ⟨(btext b x).toArray⟩) ∧ Below w.heap.size w w' := by
  obtain ⟨A1, n1, c1, b1, rfl⟩ := h.form
  obtain ⟨hn1, hb1⟩ := ri_parts h
  have h36 : (36 : Nat) < 10 ^ 200 := by decide
  have hNB : NumL (Lib.itoa (b : Int)) (b : Int) := ⟨rfl, by rw [Int.natAbs_natCast]; exact Nat.lt_of_le_of_lt hb2 h36⟩
  clear h36
  have HNB := Lib.hid hNB
  obtain ⟨W, hW, c0, f0, hbel, hs1⟩ := boxes1 w #[.slice A1 n1 c1, .bool b1] 32
  have c00 := c0 0; have c01 := c0 1
  simp at c00 c01
  have HB0 := Lib.hid hbel.to
  have HX := Lib.hid (h.below hbel.to)
  have HN1 := Lib.hid hn1; have HB1 := Lib.hid hb1
  clear c0 f0 hbel hs1 h hn1 hb1 hNB
  by_cases hx : x = 0
  · obtain rfl : n1 = 0 := by rw [HN1.out, hx, Int.natAbs_zero, dg_zero]; rfl
    rw [show btext b x = [48] from if_pos hx]
    clear hx
    go_enter Tryz.func38, Tryz.ntmps38
    go_wp2_with fail
    go_ret
    exact ⟨rfl, HB0.out⟩
  · have hn0 : ((n1 : Int) == 0) = false := by rw [HN1.out]; exact len_ne hx
    have hfn := fld_n
    have HDX : Hid (Dg 10 W (.slice A1 n1 c1) x.natAbs) := by
      obtain ⟨p, e, hp⟩ := HX.out
      simp at e
      show Dg 10 W _ _
      rw [e.1]; exact hp
    have HBT : Hid (btext b x = (if b1 then [45] else []) ++ bdig b x.natAbs) := by
      show _ = _
      unfold btext
      rw [if_neg hx, HB1.out]
      by_cases h0 : x < 0 <;> simp [h0]
    have HLX : Hid ((dg 10 x.natAbs).length ≤ 900000) := hl
    have HXP : Hid (0 < x.natAbs) := by show _ < _; omega
    have HBB := Lib.hid (And.intro hb hb2)
    obtain ⟨N, hN⟩ : ∃ N, x.natAbs = N := ⟨_, rfl⟩
    rw [hN] at HDX HBT HLX HXP
    obtain ⟨R, hR⟩ : ∃ R : ByteArray, ⟨(btext b x).toArray⟩ = R := ⟨_, rfl⟩
    rw [hR]
    have HR := Lib.hid hR
    clear hx hl hb hb2 hN hR
    go_enter Tryz.func38, Tryz.ntmps38
    go_wp2_with (first
      | (go_at_call 53; (with_reducible refine (rfromint_c (b : Int) _ (by have := HBB.out; omega) (by have := HBB.out; omega)).mono ?_); rintro e W2 ⟨rfl, hbz⟩; have HB2 := Lib.hid hbz; have c00 := keep_cell hbz c00; have c01 := keep_cell hbz c01; clear hbz)
      | (go_at_call 23; (with_reducible refine (rof_c _ (b : Int) _ HNB.out).mono ?_); rintro e W3 ⟨u, rfl, hu, hbz⟩; obtain ⟨A2, n2, c2, b2, rfl⟩ := hu.form; have HU := Lib.hid hu; have HB3 := Lib.hid (below_then' HB2.out hbz); have c00 := keep_cell hbz c00; have c01 := keep_cell hbz c01; clear hbz hu))
    have HDB : Hid (Dg 10 W3 (.slice A2 n2 c2) b) := by
      obtain ⟨p, e, hp⟩ := HU.out
      simp at e
      show Dg 10 W3 _ _
      rw [e.1]; exact hp
    have HBL : Hid ((bdig b N).length ≤ 3600000) := by
      show _ ≤ _
      unfold bdig
      rw [List.length_map, List.length_reverse]
      have h1 := lt_pow_length (b := 10) (by decide) N
      have h2 := bdig_len4 HBB.out.1 h1
      have := HLX.out
      omega
    have HC0 := Lib.hid c00; have HC1 := Lib.hid c01
    go_loopg [6, 7] N (fun g sv nv wr => ∃ s : ByteArray, sv = .string s ∧ Hid (Dg 10 wr nv g) ∧ g ≤ N ∧ Hid (bdig b g ++ s.data.toList = bdig b N) ∧ Hid (Below W3.heap.size W3 wr))
    case atStart => exact ⟨⟨#[]⟩, rfl, HDX.out.below HB3.out, Nat.le_refl _, by show _ = _; simp, Below.refl _ _⟩
    case round =>
      obtain ⟨s, rfl, HD, hgN, HS, HW⟩ := hrel
      have hsl : s.size ≤ 3600000 := by have h1 := congrArg List.length HS.out; rw [List.length_append] at h1; have := HBL.out; have e : s.data.toList.length = s.size := Array.length_toList; omega
      have c00 := keep_cell HW.out HC0.out
      have c01 := keep_cell HW.out HC1.out
      obtain ⟨A4, L4, c4, hf⟩ := HD.out.form
      have hL4 : L4 = (dg 10 gk).length := by obtain ⟨A', c', e, -⟩ := HD.out; rw [hf] at e; simp at e; exact e.2.1
      subst hf
      have HL4 := Lib.hid hL4
      by_cases hg0 : gk = 0
      · subst hg0
        obtain rfl : L4 = 0 := by rw [hL4, dg_zero]; rfl
        have HS2 : Hid (s.data.toList = bdig b N) := by have := HS.out; rw [bdig_zero, List.nil_append] at this; exact this
        clear hL4 HL4
        cases b1
        · have HE : Hid (s = R) := by show s = R; rw [← HR.out, HBT.out]; simp [← HS2.out]
          go_wp2_with fail
          go_ret
          rw [HE.out]
          exact ⟨rfl, below_then' HB0.out (below_then' HB3.out HW.out)⟩
        · have HE : Hid ((⟨#[45]⟩ : ByteArray) ++ s = R) := by
            show _ = R
            rw [← HR.out, HBT.out, ← HS2.out]
            rfl
          go_wp2_with fail
          refine bodyPost_ret (v := .string (⟨#[45]⟩ ++ s)) (by simp [results, Tryz.results38, go_sem]) rfl ?_
          rw [HE.out]
          exact ⟨rfl, below_then' HB0.out (below_then' HB3.out HW.out)⟩
      · have hp : 0 < L4 := by
          have h := dg_eq_nil (b := 10) (n := gk) (by decide)
          rw [← List.length_eq_zero_iff, ← hL4] at h
          omega
        have HLG : Hid ((dg 10 gk).length ≤ 1000000) := Nat.le_trans (dg_length_mono (by decide) hgN) (Nat.le_trans HLX.out (by decide))
        have HLB : Hid ((dg 10 b).length ≤ 999999) := Nat.le_trans ((dg_length_le (b := 10) (by decide) b 2).2 (by have := HBB.out; omega)) (by decide)
        have HBP : Hid (0 < b) := by have := HBB.out; show 0 < b; omega
        have HDB2 := Lib.hid (HDB.out.below HW.out)
        have HSTEP := Lib.hid (bdig_pos HBB.out.1 (show 0 < gk by omega))
        clear hL4
        go_wp2_with (go_at_call 67; (with_reducible refine (natDiv_c _ _ gk b _ HD.out HDB2.out HBP.out HLG.out HLB.out).mono ?_); rintro e W4 ⟨q, r, rfl, hq, hr, -, -, hbz⟩; obtain ⟨A5, n5, c5, rfl⟩ := hq.form; obtain ⟨A6, n6, c6, rfl⟩ := hr.form; have HQ := Lib.hid hq; have HRR := Lib.hid hr; have HBZ := Lib.hid hbz; have d00 := keep_cell hbz c00; have d01 := keep_cell hbz c01; have HN6 := Lib.hid (dg_len hr); have hn6 : n6 ≤ 2 := (by rw [dg_len hr]; exact (dg_length_le (b := 10) (by decide) _ 2).2 (by have := Nat.mod_lt gk HBP.out; have := HBB.out; omega)); clear hq hr hbz)
        obtain ⟨V, rfl⟩ : ∃ V : World, V = wr := ⟨_, rfl⟩
        obtain ⟨G, rfl⟩ : ∃ G : Nat, G = gk := ⟨_, rfl⟩
        have hk0 : Below W4.heap.size W4 (W4.alloc (.cells #[.slice A5 n5 c5, .slice A6 n6 c6] 85)) := (Below.refl _ _).alloc (Nat.le_refl _) _
        have hbx : (W4.alloc (.cells #[.slice A5 n5 c5, .slice A6 n6 c6] 85)).heap[W4.heap.size]? = some (.cells #[.slice A5 n5 c5, .slice A6 n6 c6] 85 (0, 0)) := heap_alloc_new _ _
        generalize W4.alloc (.cells #[.slice A5 n5 c5, .slice A6 n6 c6] 85) = W5 at *
        have HBX := Lib.hid hbx
        have e0 := cell_of_heap hbx 0; have e1 := cell_of_heap hbx 1
        simp at e0 e1
        have HQ5 := Lib.hid (HQ.out.below hk0); have HR5 := Lib.hid (HRR.out.below hk0)
        have HB5 := Lib.hid (below_then' (below_then' HW.out HBZ.out) hk0)
        have c00 := keep_cell hk0 d00; have c01 := keep_cell hk0 d01
        obtain ⟨P, hP⟩ : ∃ P, W4.heap.size = P := ⟨_, rfl⟩
        rw [hP] at e0 e1 ⊢
        have HMB := Lib.hid (Nat.mod_lt G HBP.out)
        obtain ⟨m, hm⟩ : ∃ m, G % b = m := ⟨_, rfl⟩
        rw [hm] at HR5 HN6 HSTEP HMB
        have HM := Lib.hid hm
        have HIR := Lib.hid (dg_inR (b := 10) (by decide) m)
        have HV0 := Lib.hid (vn_zero (val_dg (b := 10) (by decide) m))
        have HVE : Hid (vn (dg 10 m) n6 = 0) := by show _ = _; rw [HN6.out]; exact vn_end _
        have HVL : Hid (∀ g, vn (dg 10 m) g ≤ 100) := fun g => by
          have h1 := val_lt (HIR.out.drop g)
          have h2 : ((10 : Nat) : Int) ^ ((dg 10 m).drop g).length ≤ ((10 : Nat) : Int) ^ 2 := pow_mono' (by decide) (by rw [List.length_drop, ← HN6.out]; omega)
          have h3 : ((10 : Nat) : Int) ^ 2 = 100 := by decide
          unfold vn; omega
        clear hP hm hbx hk0 HRR HBX HBZ HQ
        go_loopg [9, 10] n6 (fun g kv iv wr => iv = .int .i64 ((g : Int) - 1) ∧ g ≤ n6 ∧ kv = .int .i64 (vn (dg 10 m) g : Int) ∧ wr = W5)
        case atStart => exact ⟨rfl, Nat.le_refl _, by rw [HVE.out]; rfl, rfl⟩
        case round =>
          obtain ⟨rfl, hg, rfl, rfl⟩ := hrel
          by_cases hi0 : gk = 0
          · subst hi0
            rw [show vn (dg 10 m) 0 = m from HV0.out]
            have hm36 : m < 36 := by have := HMB.out; have := HBB.out; omega
            have HCUT := Lib.hid (sign_cut ⟨m, hm36⟩)
            go_wp2_with fail
            go_roundg (G / b)
            case measure => exact Nat.div_lt_self (by omega) HBB.out.1
            case rel =>
              refine ⟨_, rfl, HQ5.out, Nat.le_trans (Nat.div_le_self _ _) hgN, ?_, HB5.out⟩
              show _ = _
              rw [ByteArray.data_append, Array.toList_append, HCUT.out, ← HS.out, HSTEP.out, List.append_assoc]
          · obtain ⟨g, rfl⟩ : ∃ g, gk = g + 1 := ⟨gk - 1, by omega⟩
            rw [show (((g + 1 : Nat) : Int) - 1) = (g : Int) by omega]
            obtain ⟨A', c', e, -, -, hrow⟩ := HR5.out
            obtain ⟨rfl, hn6, rfl⟩ := Value.slice.inj e
            obtain ⟨a, rfl, hcell⟩ := hrow g (by rw [← HN6.out]; omega)
            have hst := vn_step HIR.out g (by rw [← HN6.out]; omega)
            have hin := HIR.out.at_ (by decide) g
            rw [List.getD_eq_getElem?_getD] at hin
            obtain ⟨x, hx⟩ : ∃ x, (dg 10 m)[g]?.getD 0 = x := ⟨_, rfl⟩
            rw [hx] at hcell hst hin
            have hin0 := hin.1
            have hin9 : x < 10 := hin.2
            have hv1 := HVL.out (g + 1)
            have HST : Hid (10 * (vn (dg 10 m) (g + 1) : Int) + x = (vn (dg 10 m) g : Int)) := by show _ = _; omega
            have j0 : (0 : Int) ≤ (g : Int) := by omega
            have j1 : (g : Int) < (n6 : Int) := by omega
            clear hst hin e hrow hx hn6
            obtain ⟨q, hq⟩ : ∃ q, vn (dg 10 m) (g + 1) = q := ⟨_, rfl⟩
            rw [hq] at hv1 HST ⊢
            clear hq
            go_wp2_with fail
            go_roundg g
            case measure => omega
            case rel => exact ⟨by first | rfl | go_num, by omega, by rw [HST.out], rfl⟩
end Go.Proofs.YtbjgpbdkofadiaaGreatDoor
