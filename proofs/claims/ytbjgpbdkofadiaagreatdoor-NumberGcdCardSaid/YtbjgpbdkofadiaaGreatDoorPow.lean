/- Pow. -/
import Derived.Test.YtbjgpbdkofadiaaGreatDoorRootF
namespace Go.Proofs.YtbjgpbdkofadiaaGreatDoor
set_option linter.unusedVariables false
set_option linter.unusedSimpArgs false
open Go.RowKit Go.Shelf Go.Proofs

/-- What Pow makes. -/
def powOut (x n : Int) : Out := if n < 0 then .err 5 else textOut (x ^ n.toNat)

set_option maxHeartbeats 1000000 in
theorem pow1_neg (lv : Value) (b : Addr) (x n : Int) (w : World) (h : Whs w lv [x]) (hb : w.cell? b = some (.int .i64 n)) (hn : n < 0) :
    Calls Tryz.prog 59 #[lv, .pointer (some b)] w fun e w' => e = (Out.err 5).end_ ∧ Below w.heap.size w w' := by
  obtain ⟨a, c, p, rfl, c0, c1, hd⟩ := h.first
  clear h hd c0 c1
  go_enter Tryz.func59, Tryz.ntmps59
  go_wp2_with fail
  exact ⟨rfl, rfl, (by repeat (first | exact Below.refl _ _ | exact HB.out | (refine Below.alloc ?_ (by first | (simp; done) | (simp; omega)) _) | (refine Below.setCell ?_ (by first | (simp; done) | (simp; omega)) _) | refine Below.drew ?_ | refine below_drewN ?_ _))⟩

theorem addr_zero (a : Addr) : a.add 0 = a := by simp [Addr.add]

theorem dg_one : dg 1000000000 1 = [1] := dg_single (b := 1000000000) (d := 1) (by decide) (by decide) (by decide)

set_option maxHeartbeats 2000000 in
theorem pow1_zero (lv : Value) (b : Addr) (n : Int) (w : World) (h : Whs w lv [0]) (ht : Tabs w) (hb : w.cell? b = some (.int .i64 n)) (hn : 0 < n) :
    Calls Tryz.prog 59 #[lv, .pointer (some b)] w fun e w' => e = (textOut 0).end_ ∧ Below w.heap.size w w' := by
  obtain ⟨a, c, p, rfl, c0, c1, hd⟩ := h.first
  rw [decide_eq_false (by omega)] at c0
  have HD := Lib.hid hd
  obtain ⟨A6, c6, hp6, -, -, -⟩ := hd
  rw [show (0 : Int).natAbs = 0 from rfl, dg_zero] at hp6
  simp only [List.length_nil] at hp6
  subst hp6
  have HT := Lib.hid ht
  have hneg : decide (n < 0) = false := by simp; omega
  obtain ⟨W, hW, kk, ff, hbel, hsz⟩ := boxes1 w #[.bool false, .slice A6 0 c6] 72
  have kb := keep_cell hbel.to hb
  have r0 := kk 0
  have r1 := kk 1
  simp at r0 r1
  have HBEL := Lib.hid hbel
  have HO : Hid (textOut 0 = .ok (.string ⟨(Lib.itoa 0).toArray⟩)) := if_pos (by decide)
  have HWX : Hid (Wh W (.agg #[.bool false, .slice A6 0 c6]) 0) := ⟨_, rfl, HD.out.below hbel.to⟩
  rw [HO.out]
  clear h ht kk ff hsz
  go_enter Tryz.func59, Tryz.ntmps59
  go_wp2_with fail
  go_wp2_with (first
    | (go_at_call 60; refine (made_c _ _ 0 _ (HD.out.below HBEL.out.to)).mono ?_; rintro e W2 ⟨rfl, hbz⟩; have HB2 := Lib.hid hbz; clear hbz)
    | (go_at_call 58; refine (text_out _ 0 _ (HWX.out.below HB2.out) (HT.out.below (below_then' HBEL.out.to HB2.out)) (by simp [dg_zero])).mono ?_; rw [HO.out]; rintro e W3 ⟨he, hbz⟩; have he2 : e = .returned (.string ⟨(Lib.itoa 0).toArray⟩) := he; subst he2; have HB3 := Lib.hid (below_then' (below_then' HBEL.out.to HB2.out) hbz); clear he hbz))
  go_ret
  exact ⟨rfl, HB3.out⟩

set_option maxRecDepth 100000 in
set_option maxHeartbeats 2000000 in
theorem pow1_unit (lv : Value) (b : Addr) (x n z : Int) (o : Bool) (w : World) (h : Whs w lv [x]) (ht : Tabs w) (hb : w.cell? b = some (.int .i64 n)) (hn : 0 < n) (hx : x.natAbs = 1) (ho : (n % 2 == 1) = o) (hz : z = if (decide (x < 0) && o) = true then -1 else 1) :
    Calls Tryz.prog 59 #[lv, .pointer (some b)] w fun e w' => e = (textOut z).end_ ∧ Below w.heap.size w w' := by
  obtain ⟨a, c, p, rfl, c0, c1, hd⟩ := h.first
  have HD := Lib.hid hd
  obtain ⟨A6, c6, hp6, -, -, hrow⟩ := hd
  rw [hx, dg_one] at hp6 hrow
  simp only [List.length_cons, List.length_nil, Nat.zero_add] at hp6
  obtain ⟨a6, rfl, hc6⟩ := hrow 0 (by simp)
  subst hp6
  have HT := Lib.hid ht
  have hneg : decide (n < 0) = false := by simp; omega
  generalize hbx : decide (x < 0) = bx at *
  obtain ⟨W, hW, kk, ff, hbel, hsz⟩ := boxes1 w #[.bool bx, .slice (some a6) 1 c6] 72
  have kb := keep_cell hbel.to hb
  have k6 := keep_cell hbel.to hc6
  have r0 := kk 0
  have r1 := kk 1
  simp at r0 r1
  rw [addr_zero] at k6
  simp at k6
  have HBEL := Lib.hid hbel
  have hz1 : z.natAbs = 1 := by rw [hz]; split <;> rfl
  have HLZ : Hid ((dg 1000000000 z.natAbs).length ≤ 1000000) := by show _ ≤ _; rw [hz1, dg_one]; simp
  obtain ⟨s, hs⟩ : ∃ s, (bx && o) = s := ⟨_, rfl⟩
  have HO : Hid (textOut z = .ok (.string ⟨(Lib.itoa z).toArray⟩)) := if_pos (by rw [hz1]; decide)
  have hzs : s = decide (z < 0) := by rw [hz, hs]; cases s <;> rfl
  have hD1 := HD.out.below hbel.to
  rw [hx] at hD1
  have HWX : Hid (Wh W (.agg #[.bool s, .slice (some a6) 1 c6]) z) := ⟨_, by rw [hzs], by rw [hz1]; exact hD1⟩
  have HD1 := Lib.hid hD1
  clear hD1
  rw [HO.out]
  clear h ht kk ff hsz hc6 hrow hz hz1 hzs hx hbx HD
  cases bx
  · obtain rfl : s = false := by rw [← hs]; rfl
    clear hs
    go_enter Tryz.func59, Tryz.ntmps59
    go_wp2_with (first | (go_at_call 60; refine (made_c _ _ 1 _ HD1.out).mono ?_; rintro e W2 ⟨rfl, hbz⟩; have HB2 := Lib.hid hbz; clear hbz) | (go_at_call 58; refine (text_out _ z _ (HWX.out.below HB2.out) (HT.out.below (below_then' HBEL.out.to HB2.out)) HLZ.out).mono ?_; rw [HO.out]; rintro e W3 ⟨he, hbz⟩; have he2 : e = .returned (.string ⟨(Lib.itoa z).toArray⟩) := he; subst he2; have HB3 := Lib.hid (below_then' (below_then' HBEL.out.to HB2.out) hbz); clear he hbz))
    go_ret
    exact ⟨rfl, HB3.out⟩
  · obtain rfl : o = s := by rw [← hs]; rfl
    clear hs
    cases o
    · go_enter Tryz.func59, Tryz.ntmps59
      go_wp2_with (first | (go_at_call 60; refine (made_c _ _ 1 _ HD1.out).mono ?_; rintro e W2 ⟨rfl, hbz⟩; have HB2 := Lib.hid hbz; clear hbz) | (go_at_call 58; refine (text_out _ z _ (HWX.out.below HB2.out) (HT.out.below (below_then' HBEL.out.to HB2.out)) HLZ.out).mono ?_; rw [HO.out]; rintro e W3 ⟨he, hbz⟩; have he2 : e = .returned (.string ⟨(Lib.itoa z).toArray⟩) := he; subst he2; have HB3 := Lib.hid (below_then' (below_then' HBEL.out.to HB2.out) hbz); clear he hbz))
      go_ret
      exact ⟨rfl, HB3.out⟩
    · go_enter Tryz.func59, Tryz.ntmps59
      go_wp2_with (first | (go_at_call 60; refine (made_c _ _ 1 _ HD1.out).mono ?_; rintro e W2 ⟨rfl, hbz⟩; have HB2 := Lib.hid hbz; clear hbz) | (go_at_call 58; refine (text_out _ z _ (HWX.out.below HB2.out) (HT.out.below (below_then' HBEL.out.to HB2.out)) HLZ.out).mono ?_; rw [HO.out]; rintro e W3 ⟨he, hbz⟩; have he2 : e = .returned (.string ⟨(Lib.itoa z).toArray⟩) := he; subst he2; have HB3 := Lib.hid (below_then' (below_then' HBEL.out.to HB2.out) hbz); clear he hbz))
      go_ret
      exact ⟨rfl, HB3.out⟩

/-- Two stores into one block. -/
theorem two_set (W2 : World) (B : Nat) (u v : Value) {z0 z1 : Value} (h0 : W2.cell? ⟨B, 0, none⟩ = some z0) (h1 : W2.cell? ⟨B, 1, none⟩ = some z1) : ∃ F, (W2.setCell ⟨B, 0, none⟩ u).setCell ⟨B, 1, none⟩ v = F ∧ F.cell? ⟨B, 0, none⟩ = some u ∧ F.cell? ⟨B, 1, none⟩ = some v
    ∧ (∀ (p : Addr) v', p.block ≠ B → W2.cell? p = some v' → F.cell? p = some v') ∧ (∀ p, F.frozen? p = W2.frozen? p) ∧ (∀ k w, k ≤ B → Below k w W2 → Below k w F) ∧ (∀ v' z' k, B < k → WhN k W2 v' z' → WhN k F v' z') ∧ F.heap.size = W2.heap.size :=
  ⟨_, rfl, set_other _ (by simp) (set_same _ h0), set_same _ (set_other _ (by simp) h1), fun p v' hp hv => set_far _ (fun e => hp e.symm) (set_far _ (fun e => hp e.symm) hv), fun p => by simp, fun k w hk hb => (hb.setCell hk _).setCell hk _, fun v' z' k hk hv => (hv.set hk _).set hk _, by simp⟩

theorem mul_big (x : Int) {i : Nat} (hx : x.natAbs < 10 ^ 200) (h : (x ^ i).natAbs < 10 ^ 200) : (dg 1000000000 (x ^ i * x).natAbs).length ≤ 1000000 := by
  rw [Int.natAbs_mul]; exact Nat.le_trans (len_mul h hx) (by decide)

set_option maxRecDepth 100000 in
set_option maxHeartbeats 4000000 in
theorem pow1_big (lv : Value) (b : Addr) (x : Int) (N : Nat) (w : World) (h : Whs w lv [x]) (ht : Tabs w) (hb : w.cell? b = some (.int .i64 (N : Int))) (hN : N ≤ 9223372036854775807) (hx : x.natAbs < 10 ^ 200) (hc : N = 0 ∨ 2 ≤ x.natAbs) :
    Calls Tryz.prog 59 #[lv, .pointer (some b)] w fun e w' => e = (textOut (x ^ N)).end_ ∧ Below w.heap.size w w' := by
  obtain ⟨a, c, p, rfl, c0, c1, hd⟩ := h.first
  have HD := Lib.hid hd
  obtain ⟨L, hL⟩ : ∃ L, (dg 1000000000 x.natAbs).length = L := ⟨_, rfl⟩
  obtain ⟨A6, c6, hp6, -, -, hrow⟩ := hd
  rw [hL] at hp6
  subst hp6
  have HT := Lib.hid ht
  have HX := Lib.hid hx
  have HW0 : Hid (Wh w (.agg #[.bool (decide (x < 0)), .slice A6 L c6]) x) := ⟨_, rfl, HD.out⟩
  have HCC := Lib.hid hc
  have HN := Lib.hid hN
  have hneg : decide ((N : Int) < 0) = false := by simp
  -- the three ways past the test
  have hway : N = 0 ∨ (0 < N ∧ ((L : Int) == 0) = false ∧ ((L : Int) == 1) = false) ∨ (0 < N ∧ L = 1 ∧ ∃ a6 d, A6 = some a6 ∧ w.cell? a6 = some (.int .i64 d) ∧ (d == 1) = false) := by
    rcases hc with h0 | h2
    · exact .inl h0
    · rcases Nat.eq_zero_or_pos N with h0 | h0
      · exact .inl h0
      · right
        have hl0 : L ≠ 0 := fun e => by rw [e] at hL; have := (dg_eq_nil (b := 1000000000) (by decide)).1 (List.length_eq_zero_iff.1 hL); omega
        by_cases h1 : L = 1
        · right
          obtain ⟨a6, rfl, hc6⟩ := hrow 0 (by omega)
          rw [addr_zero] at hc6
          refine ⟨h0, h1, a6, _, rfl, hc6, ?_⟩
          have hlt : x.natAbs < 1000000000 := by have := (dg_length_le (b := 1000000000) (by decide) x.natAbs 1).1 (by omega); simpa using this
          rw [dg_single (b := 1000000000) (d := x.natAbs) (by decide) (by omega) hlt]
          simp; omega
        · left
          exact ⟨h0, by simp; omega, by simp; omega⟩
  generalize hbx : decide (x < 0) = bx at *
  have HBX := Lib.hid hbx
  obtain ⟨W, hW, kk, ff, hbel, hsz⟩ := boxes1 w #[.bool bx, .slice A6 L c6] 72
  have kb := keep_cell hbel.to hb
  have r0 := kk 0
  have r1 := kk 1
  simp at r0 r1
  have HBEL := Lib.hid hbel
  obtain ⟨V, hV, vk0, vk1, vf0, vf1, hbv, hsv⟩ := boxes2 W #[.int .i64 1] #[.bool false, .slice (some ⟨W.heap.size, 0, none⟩) 1 1] 3 72
  have kc0 := keep_cell hbv.to (keep_cell hbel.to c0)
  have kc1 := keep_cell hbv.to (keep_cell hbel.to c1)
  have kcb := keep_cell hbv.to kb
  have v0 := vk1 0
  have v1 := vk1 1
  have g0 := vf1 0
  have g1 := vf1 1
  simp at v0 v1
  have HBV : Hid (Below w.heap.size w V) := below_then' hbel.to hbv.to
  have HSW : Hid (W.heap.size = w.heap.size + 1) := hsz
  have HSV : Hid (V.heap.size = W.heap.size + 1 + 1) := hsv
  have HV1 : Hid (Dg 1000000000 V (.slice (some ⟨W.heap.size, 0, none⟩) 1 1) 1) := by rw [← hV]; exact (dg_lit W 1 3 (by decide) (by decide)).below ((Below.refl _ _).alloc (Nat.le_refl _) _)
  clear h ht kk ff hsz hsv hc hx hL vk0 vk1 vf0 vf1 hbv hbx hN
  have ha0 : a < w.heap.size := by have := World.block_lt_of_cell? w _ c0; simpa using this
  have hb0 : b.block < w.heap.size := World.block_lt_of_cell? w _ hb
  have HA0 := Lib.hid ha0
  have HB0 := Lib.hid hb0
  clear ha0 hb0
  rcases hway with h0 | ⟨h0, l0, l1⟩ | ⟨h0, l1, a6, d, rfl, hc6, hd1⟩
  · have hz : decide (0 < N) = false := by simp [h0]
    have hz2 : ¬ 0 < N := by omega
    clear hrow h0
    go_enter Tryz.func59, Tryz.ntmps59
    go_wp2_with fail
    clear r0 r1 kb hz hz2 c0 c1 hb
    go_loopg [48] N (fun gk iv wr => ∃ (i : Nat) (bz : Bool) (q : Value), iv = .int .i64 i ∧ i + gk = N ∧ wr.cell? ⟨a, 0, none⟩ = some (.bool bx) ∧ wr.cell? ⟨a, 1, none⟩ = some (.slice A6 L c6) ∧ wr.cell? b = some (.int .i64 (N : Int)) ∧ wr.cell? ⟨W.heap.size + 1, 0, none⟩ = some (.bool bz) ∧ wr.cell? ⟨W.heap.size + 1, 1, none⟩ = some q ∧ wr.frozen? ⟨W.heap.size + 1, 0, none⟩ = false ∧ wr.frozen? ⟨W.heap.size + 1, 1, none⟩ = false ∧ Hid (bz = decide (x ^ i < 0) ∧ Dg 1000000000 wr q (x ^ i).natAbs ∧ (x ^ i).natAbs < 10 ^ 200) ∧ Hid (Below w.heap.size w wr ∧ V.heap.size ≤ wr.heap.size))
    case atStart => exact ⟨0, false, _, rfl, by omega, kc0, kc1, kcb, v0, v1, g0, g1, ⟨by simp, by simpa using HV1.out, by rw [Int.pow_zero]; decide⟩, ⟨HBV.out, Nat.le_refl _⟩⟩
    case round =>
      obtain ⟨i, bz, q, rfl, hg, ka0, ka1, kab, p0, p1, f0, f1, HG, HB⟩ := hrel
      clear kc0 kc1 kcb v0 v1 g0 g1
      obtain ⟨A8, n8, c8, rfl⟩ := HG.out.2.1.form
      have HGK := Lib.hid hg
      by_cases hlt : i < N
      · have HLT := Lib.hid hlt
        have HWI : Hid (Wh wr.drew (.agg #[.bool bz, .slice A8 n8 c8]) (x ^ i)) := ⟨_, by rw [← HG.out.1], HG.out.2.1.drew⟩
        have HWXX : Hid (Wh wr.drew (.agg #[.bool bx, .slice A6 L c6]) x) := HW0.out.below HB.out.1.drew
        have HL1 : Hid ((dg 1000000000 (x ^ i).natAbs).length ≤ 1000000) := Nat.le_trans (len23 HG.out.2.2) (by decide)
        have HL2 : Hid ((dg 1000000000 x.natAbs).length ≤ 1000000) := Nat.le_trans (len23 HX.out) (by decide)
        have HL3 : Hid ((dg 1000000000 (x ^ i * x).natAbs).length ≤ 1000000) := mul_big x HX.out HG.out.2.2
        have d0 : wr.drew.cell? ⟨a, 0, none⟩ = some (.bool bx) := ka0
        have d1 : wr.drew.cell? ⟨a, 1, none⟩ = some (.slice A6 L c6) := ka1
        have d2 : wr.drew.cell? b = some (.int .i64 (N : Int)) := kab
        have d3 : wr.drew.cell? ⟨W.heap.size + 1, 0, none⟩ = some (.bool bz) := p0
        have d4 : wr.drew.cell? ⟨W.heap.size + 1, 1, none⟩ = some (.slice A8 n8 c8) := p1
        have d5 : wr.drew.frozen? ⟨W.heap.size + 1, 0, none⟩ = false := f0
        have d6 : wr.drew.frozen? ⟨W.heap.size + 1, 1, none⟩ = false := f1
        obtain ⟨o, ho⟩ : ∃ o, textOut (x ^ i * x) = o := ⟨_, rfl⟩
        have HO := Lib.hid ho
        have hib : i < 9223372036854775807 := by have := HN.out; omega
        clear hg hlt ho
        go_wp2_with fail
        go_region_with (go_at_call 57; refine (mulN_c _ _ (x ^ i) x _ HWI.out HWXX.out HL1.out HL2.out).mono ?_; rintro e W2 ⟨u, rfl, hu, hbz⟩; obtain ⟨b6, A9, n9, c9, rfl, hb6, -⟩ := hu.form; have HU := Lib.hid hu; have HB6 := Lib.hid hb6; have ka0 := keep_cell hbz d0; have ka1 := keep_cell hbz d1; have kab := keep_cell hbz d2; have p0 := keep_cell hbz d3; have p1 := keep_cell hbz d4; have f0 := keep_free' hbz d3 d5; have f1 := keep_free' hbz d4 d6; have HBZ := Lib.hid hbz; clear hu hb6 hbz d0 d1 d2 d3 d4 d5 d6)
        all_goals
          obtain ⟨F, hF, e0, e1, hfar, hfz, hbf, hwf, hsf⟩ := two_set W2 (W.heap.size + 1) (.bool b6) (.slice A9 n9 c9) p0 p1
          rw [hF]
          have h1 := hfar _ _ (by have := HA0.out; have := HSW.out; simp; omega) ka0
          have h2 := hfar _ _ (by have := HA0.out; have := HSW.out; simp; omega) ka1
          have h3 := hfar _ _ (by have := HB0.out; have := HSW.out; simp; omega) kab
          have h4 := (hfz ⟨W.heap.size + 1, 0, none⟩).trans f0
          have h5 := (hfz ⟨W.heap.size + 1, 1, none⟩).trans f1
          have HUF := Lib.hid (hwf _ _ _ (by have := HSV.out; have := HB.out.2; simp; omega) HU.out)
          have HBF : Hid (Below w.heap.size w F) := hbf _ _ (by have := HSW.out; omega) (HB.out.1.drew.trans (HBZ.out.mono (HB.out.1.drew.size)))
          have HSF : Hid (V.heap.size ≤ F.heap.size) := by show _ ≤ _; rw [hsf]; exact Nat.le_trans HB.out.2 HBZ.out.size
          clear hfar hfz hbf hwf hsf hF ka0 ka1 kab p0 p1 f0 f1
          cases o with
          | ok r =>
            go_wp2_with (go_at_call 58; refine (text_out _ (x ^ i * x) _ HUF.out.wh (HT.out.below HBF.out) HL3.out).mono ?_; rw [HO.out]; rintro e W3 ⟨he, hbz⟩; have he2 : e = .returned r := he; subst he2; have h1 := keep_cell hbz h1; have h2 := keep_cell hbz h2; have h3 := keep_cell hbz h3; have h4 := keep_free' hbz e0 h4; have h5 := keep_free' hbz e1 h5; have e0 := keep_cell hbz e0; have e1 := keep_cell hbz e1; have HU3 := Lib.hid (HUF.out.below hbz); have HB3 := Lib.hid (below_then' HBF.out hbz); have HS3 := Lib.hid (Nat.le_trans HSF.out hbz.size); clear he hbz)
            go_roundg (gk - 1)
            case measure => have h1 := HGK.out; have h2 := HLT.out; omega
            case rel =>
              obtain ⟨t1, t2, t3⟩ := HU3.out.parts
              refine ⟨i + 1, b6, .slice A9 n9 c9, by simp, by have h1 := HGK.out; have h2 := HLT.out; omega, h1, h2, h3, e0, e1, h4, h5, ⟨?_, ?_, ?_⟩, ⟨HB3.out, HS3.out⟩⟩
              · rw [Int.pow_succ]; exact t3
              · rw [Int.pow_succ]; exact t1
              · rw [Int.pow_succ]
                have := HO.out
                unfold textOut at this
                split at this
                · assumption
                · cases this
          | err k =>
            go_wp2_with (go_at_call 58; refine (text_out _ (x ^ i * x) _ HUF.out.wh (HT.out.below HBF.out) HL3.out).mono ?_; rw [HO.out]; rintro e W3 ⟨he, hbz⟩; have he2 : e = .panicked (failChain k) := he; subst he2; have HB3 := Lib.hid (below_then' HBF.out hbz); clear he hbz)
            refine ⟨rfl, ?_, HB3.out⟩
            have hk : k = 3 ∧ ¬ (x ^ i * x).natAbs < 10 ^ 200 := by
              have := HO.out
              unfold textOut at this
              split at this
              · cases this
              · rename_i hh; cases this; exact ⟨rfl, hh⟩
            obtain ⟨rfl, hbig⟩ := hk
            have hgr : (x ^ (i + 1)).natAbs ≤ (x ^ N).natAbs := pow_grow (by have h0 := HLT.out; have hh := HCC.out; omega) HLT.out
            rw [Int.pow_succ] at hgr
            rw [show textOut (x ^ N) = .err 3 from if_neg (by omega)]
            rfl
      · have hiN : i = N := by omega
        have HIN := Lib.hid hiN
        have HWI : Hid (Wh wr (.agg #[.bool bz, .slice A8 n8 c8]) (x ^ N)) := ⟨_, by rw [← hiN, ← HG.out.1], by rw [← hiN]; exact HG.out.2.1⟩
        have HLN : Hid ((dg 1000000000 (x ^ N).natAbs).length ≤ 1000000) := by rw [← hiN]; exact Nat.le_trans (len23 HG.out.2.2) (by decide)
        have HO : Hid (textOut (x ^ N) = .ok (.string ⟨(Lib.itoa (x ^ N)).toArray⟩)) := if_pos (by rw [← hiN]; exact HG.out.2.2)
        have HTW := Lib.hid (HT.out.below HB.out.1)
        clear hg hlt
        subst hiN
        go_wp2_with (go_at_call 58; refine (text_out _ (x ^ i) _ HWI.out HTW.out HLN.out).mono ?_; rw [HO.out]; rintro e W3 ⟨he, hbz⟩; have he2 : e = .returned (.string ⟨(Lib.itoa (x ^ i)).toArray⟩) := he; subst he2; have HB3 := Lib.hid (below_then' HB.out.1 hbz); clear he hbz)
        go_ret
        exact ⟨by rw [HO.out]; rfl, HB3.out⟩
  · have hz : decide (0 < N) = true := by simp [h0]
    have hz2 : 0 < N := h0
    clear hrow h0
    go_enter Tryz.func59, Tryz.ntmps59
    go_wp2_with fail
    clear r0 r1 kb hz hz2 c0 c1 hb l0 l1
    go_loopg [48] N (fun gk iv wr => ∃ (i : Nat) (bz : Bool) (q : Value), iv = .int .i64 i ∧ i + gk = N ∧ wr.cell? ⟨a, 0, none⟩ = some (.bool bx) ∧ wr.cell? ⟨a, 1, none⟩ = some (.slice A6 L c6) ∧ wr.cell? b = some (.int .i64 (N : Int)) ∧ wr.cell? ⟨W.heap.size + 1, 0, none⟩ = some (.bool bz) ∧ wr.cell? ⟨W.heap.size + 1, 1, none⟩ = some q ∧ wr.frozen? ⟨W.heap.size + 1, 0, none⟩ = false ∧ wr.frozen? ⟨W.heap.size + 1, 1, none⟩ = false ∧ Hid (bz = decide (x ^ i < 0) ∧ Dg 1000000000 wr q (x ^ i).natAbs ∧ (x ^ i).natAbs < 10 ^ 200) ∧ Hid (Below w.heap.size w wr ∧ V.heap.size ≤ wr.heap.size))
    case atStart => exact ⟨0, false, _, rfl, by omega, kc0, kc1, kcb, v0, v1, g0, g1, ⟨by simp, by simpa using HV1.out, by rw [Int.pow_zero]; decide⟩, ⟨HBV.out, Nat.le_refl _⟩⟩
    case round =>
      obtain ⟨i, bz, q, rfl, hg, ka0, ka1, kab, p0, p1, f0, f1, HG, HB⟩ := hrel
      clear kc0 kc1 kcb v0 v1 g0 g1
      obtain ⟨A8, n8, c8, rfl⟩ := HG.out.2.1.form
      have HGK := Lib.hid hg
      by_cases hlt : i < N
      · have HLT := Lib.hid hlt
        have HWI : Hid (Wh wr.drew (.agg #[.bool bz, .slice A8 n8 c8]) (x ^ i)) := ⟨_, by rw [← HG.out.1], HG.out.2.1.drew⟩
        have HWXX : Hid (Wh wr.drew (.agg #[.bool bx, .slice A6 L c6]) x) := HW0.out.below HB.out.1.drew
        have HL1 : Hid ((dg 1000000000 (x ^ i).natAbs).length ≤ 1000000) := Nat.le_trans (len23 HG.out.2.2) (by decide)
        have HL2 : Hid ((dg 1000000000 x.natAbs).length ≤ 1000000) := Nat.le_trans (len23 HX.out) (by decide)
        have HL3 : Hid ((dg 1000000000 (x ^ i * x).natAbs).length ≤ 1000000) := mul_big x HX.out HG.out.2.2
        have d0 : wr.drew.cell? ⟨a, 0, none⟩ = some (.bool bx) := ka0
        have d1 : wr.drew.cell? ⟨a, 1, none⟩ = some (.slice A6 L c6) := ka1
        have d2 : wr.drew.cell? b = some (.int .i64 (N : Int)) := kab
        have d3 : wr.drew.cell? ⟨W.heap.size + 1, 0, none⟩ = some (.bool bz) := p0
        have d4 : wr.drew.cell? ⟨W.heap.size + 1, 1, none⟩ = some (.slice A8 n8 c8) := p1
        have d5 : wr.drew.frozen? ⟨W.heap.size + 1, 0, none⟩ = false := f0
        have d6 : wr.drew.frozen? ⟨W.heap.size + 1, 1, none⟩ = false := f1
        obtain ⟨o, ho⟩ : ∃ o, textOut (x ^ i * x) = o := ⟨_, rfl⟩
        have HO := Lib.hid ho
        have hib : i < 9223372036854775807 := by have := HN.out; omega
        clear hg hlt ho
        go_wp2_with fail
        go_region_with (go_at_call 57; refine (mulN_c _ _ (x ^ i) x _ HWI.out HWXX.out HL1.out HL2.out).mono ?_; rintro e W2 ⟨u, rfl, hu, hbz⟩; obtain ⟨b6, A9, n9, c9, rfl, hb6, -⟩ := hu.form; have HU := Lib.hid hu; have HB6 := Lib.hid hb6; have ka0 := keep_cell hbz d0; have ka1 := keep_cell hbz d1; have kab := keep_cell hbz d2; have p0 := keep_cell hbz d3; have p1 := keep_cell hbz d4; have f0 := keep_free' hbz d3 d5; have f1 := keep_free' hbz d4 d6; have HBZ := Lib.hid hbz; clear hu hb6 hbz d0 d1 d2 d3 d4 d5 d6)
        all_goals
          obtain ⟨F, hF, e0, e1, hfar, hfz, hbf, hwf, hsf⟩ := two_set W2 (W.heap.size + 1) (.bool b6) (.slice A9 n9 c9) p0 p1
          rw [hF]
          have h1 := hfar _ _ (by have := HA0.out; have := HSW.out; simp; omega) ka0
          have h2 := hfar _ _ (by have := HA0.out; have := HSW.out; simp; omega) ka1
          have h3 := hfar _ _ (by have := HB0.out; have := HSW.out; simp; omega) kab
          have h4 := (hfz ⟨W.heap.size + 1, 0, none⟩).trans f0
          have h5 := (hfz ⟨W.heap.size + 1, 1, none⟩).trans f1
          have HUF := Lib.hid (hwf _ _ _ (by have := HSV.out; have := HB.out.2; simp; omega) HU.out)
          have HBF : Hid (Below w.heap.size w F) := hbf _ _ (by have := HSW.out; omega) (HB.out.1.drew.trans (HBZ.out.mono (HB.out.1.drew.size)))
          have HSF : Hid (V.heap.size ≤ F.heap.size) := by show _ ≤ _; rw [hsf]; exact Nat.le_trans HB.out.2 HBZ.out.size
          clear hfar hfz hbf hwf hsf hF ka0 ka1 kab p0 p1 f0 f1
          cases o with
          | ok r =>
            go_wp2_with (go_at_call 58; refine (text_out _ (x ^ i * x) _ HUF.out.wh (HT.out.below HBF.out) HL3.out).mono ?_; rw [HO.out]; rintro e W3 ⟨he, hbz⟩; have he2 : e = .returned r := he; subst he2; have h1 := keep_cell hbz h1; have h2 := keep_cell hbz h2; have h3 := keep_cell hbz h3; have h4 := keep_free' hbz e0 h4; have h5 := keep_free' hbz e1 h5; have e0 := keep_cell hbz e0; have e1 := keep_cell hbz e1; have HU3 := Lib.hid (HUF.out.below hbz); have HB3 := Lib.hid (below_then' HBF.out hbz); have HS3 := Lib.hid (Nat.le_trans HSF.out hbz.size); clear he hbz)
            go_roundg (gk - 1)
            case measure => have h1 := HGK.out; have h2 := HLT.out; omega
            case rel =>
              obtain ⟨t1, t2, t3⟩ := HU3.out.parts
              refine ⟨i + 1, b6, .slice A9 n9 c9, by simp, by have h1 := HGK.out; have h2 := HLT.out; omega, h1, h2, h3, e0, e1, h4, h5, ⟨?_, ?_, ?_⟩, ⟨HB3.out, HS3.out⟩⟩
              · rw [Int.pow_succ]; exact t3
              · rw [Int.pow_succ]; exact t1
              · rw [Int.pow_succ]
                have := HO.out
                unfold textOut at this
                split at this
                · assumption
                · cases this
          | err k =>
            go_wp2_with (go_at_call 58; refine (text_out _ (x ^ i * x) _ HUF.out.wh (HT.out.below HBF.out) HL3.out).mono ?_; rw [HO.out]; rintro e W3 ⟨he, hbz⟩; have he2 : e = .panicked (failChain k) := he; subst he2; have HB3 := Lib.hid (below_then' HBF.out hbz); clear he hbz)
            refine ⟨rfl, ?_, HB3.out⟩
            have hk : k = 3 ∧ ¬ (x ^ i * x).natAbs < 10 ^ 200 := by
              have := HO.out
              unfold textOut at this
              split at this
              · cases this
              · rename_i hh; cases this; exact ⟨rfl, hh⟩
            obtain ⟨rfl, hbig⟩ := hk
            have hgr : (x ^ (i + 1)).natAbs ≤ (x ^ N).natAbs := pow_grow (by have h0 := HLT.out; have hh := HCC.out; omega) HLT.out
            rw [Int.pow_succ] at hgr
            rw [show textOut (x ^ N) = .err 3 from if_neg (by omega)]
            rfl
      · have hiN : i = N := by omega
        have HIN := Lib.hid hiN
        have HWI : Hid (Wh wr (.agg #[.bool bz, .slice A8 n8 c8]) (x ^ N)) := ⟨_, by rw [← hiN, ← HG.out.1], by rw [← hiN]; exact HG.out.2.1⟩
        have HLN : Hid ((dg 1000000000 (x ^ N).natAbs).length ≤ 1000000) := by rw [← hiN]; exact Nat.le_trans (len23 HG.out.2.2) (by decide)
        have HO : Hid (textOut (x ^ N) = .ok (.string ⟨(Lib.itoa (x ^ N)).toArray⟩)) := if_pos (by rw [← hiN]; exact HG.out.2.2)
        have HTW := Lib.hid (HT.out.below HB.out.1)
        clear hg hlt
        subst hiN
        go_wp2_with (go_at_call 58; refine (text_out _ (x ^ i) _ HWI.out HTW.out HLN.out).mono ?_; rw [HO.out]; rintro e W3 ⟨he, hbz⟩; have he2 : e = .returned (.string ⟨(Lib.itoa (x ^ i)).toArray⟩) := he; subst he2; have HB3 := Lib.hid (below_then' HB.out.1 hbz); clear he hbz)
        go_ret
        exact ⟨by rw [HO.out]; rfl, HB3.out⟩
  · have hz : decide (0 < N) = true := by simp [h0]
    have hz2 : 0 < N := h0
    have k6 := keep_cell hbel.to hc6
    subst l1
    clear hrow h0 hc6
    go_enter Tryz.func59, Tryz.ntmps59
    go_wp2_with fail
    clear r0 r1 kb hz hz2 c0 c1 hb hd1 k6
    go_loopg [48] N (fun gk iv wr => ∃ (i : Nat) (bz : Bool) (q : Value), iv = .int .i64 i ∧ i + gk = N ∧ wr.cell? ⟨a, 0, none⟩ = some (.bool bx) ∧ wr.cell? ⟨a, 1, none⟩ = some (.slice (some a6) 1 c6) ∧ wr.cell? b = some (.int .i64 (N : Int)) ∧ wr.cell? ⟨W.heap.size + 1, 0, none⟩ = some (.bool bz) ∧ wr.cell? ⟨W.heap.size + 1, 1, none⟩ = some q ∧ wr.frozen? ⟨W.heap.size + 1, 0, none⟩ = false ∧ wr.frozen? ⟨W.heap.size + 1, 1, none⟩ = false ∧ Hid (bz = decide (x ^ i < 0) ∧ Dg 1000000000 wr q (x ^ i).natAbs ∧ (x ^ i).natAbs < 10 ^ 200) ∧ Hid (Below w.heap.size w wr ∧ V.heap.size ≤ wr.heap.size))
    case atStart => exact ⟨0, false, _, rfl, by omega, kc0, kc1, kcb, v0, v1, g0, g1, ⟨by simp, by simpa using HV1.out, by rw [Int.pow_zero]; decide⟩, ⟨HBV.out, Nat.le_refl _⟩⟩
    case round =>
      obtain ⟨i, bz, q, rfl, hg, ka0, ka1, kab, p0, p1, f0, f1, HG, HB⟩ := hrel
      clear kc0 kc1 kcb v0 v1 g0 g1
      obtain ⟨A8, n8, c8, rfl⟩ := HG.out.2.1.form
      have HGK := Lib.hid hg
      by_cases hlt : i < N
      · have HLT := Lib.hid hlt
        have HWI : Hid (Wh wr.drew (.agg #[.bool bz, .slice A8 n8 c8]) (x ^ i)) := ⟨_, by rw [← HG.out.1], HG.out.2.1.drew⟩
        have HWXX : Hid (Wh wr.drew (.agg #[.bool bx, .slice (some a6) 1 c6]) x) := HW0.out.below HB.out.1.drew
        have HL1 : Hid ((dg 1000000000 (x ^ i).natAbs).length ≤ 1000000) := Nat.le_trans (len23 HG.out.2.2) (by decide)
        have HL2 : Hid ((dg 1000000000 x.natAbs).length ≤ 1000000) := Nat.le_trans (len23 HX.out) (by decide)
        have HL3 : Hid ((dg 1000000000 (x ^ i * x).natAbs).length ≤ 1000000) := mul_big x HX.out HG.out.2.2
        have d0 : wr.drew.cell? ⟨a, 0, none⟩ = some (.bool bx) := ka0
        have d1 : wr.drew.cell? ⟨a, 1, none⟩ = some (.slice (some a6) 1 c6) := ka1
        have d2 : wr.drew.cell? b = some (.int .i64 (N : Int)) := kab
        have d3 : wr.drew.cell? ⟨W.heap.size + 1, 0, none⟩ = some (.bool bz) := p0
        have d4 : wr.drew.cell? ⟨W.heap.size + 1, 1, none⟩ = some (.slice A8 n8 c8) := p1
        have d5 : wr.drew.frozen? ⟨W.heap.size + 1, 0, none⟩ = false := f0
        have d6 : wr.drew.frozen? ⟨W.heap.size + 1, 1, none⟩ = false := f1
        obtain ⟨o, ho⟩ : ∃ o, textOut (x ^ i * x) = o := ⟨_, rfl⟩
        have HO := Lib.hid ho
        have hib : i < 9223372036854775807 := by have := HN.out; omega
        clear hg hlt ho
        go_wp2_with fail
        go_region_with (go_at_call 57; refine (mulN_c _ _ (x ^ i) x _ HWI.out HWXX.out HL1.out HL2.out).mono ?_; rintro e W2 ⟨u, rfl, hu, hbz⟩; obtain ⟨b6, A9, n9, c9, rfl, hb6, -⟩ := hu.form; have HU := Lib.hid hu; have HB6 := Lib.hid hb6; have ka0 := keep_cell hbz d0; have ka1 := keep_cell hbz d1; have kab := keep_cell hbz d2; have p0 := keep_cell hbz d3; have p1 := keep_cell hbz d4; have f0 := keep_free' hbz d3 d5; have f1 := keep_free' hbz d4 d6; have HBZ := Lib.hid hbz; clear hu hb6 hbz d0 d1 d2 d3 d4 d5 d6)
        all_goals
          obtain ⟨F, hF, e0, e1, hfar, hfz, hbf, hwf, hsf⟩ := two_set W2 (W.heap.size + 1) (.bool b6) (.slice A9 n9 c9) p0 p1
          rw [hF]
          have h1 := hfar _ _ (by have := HA0.out; have := HSW.out; simp; omega) ka0
          have h2 := hfar _ _ (by have := HA0.out; have := HSW.out; simp; omega) ka1
          have h3 := hfar _ _ (by have := HB0.out; have := HSW.out; simp; omega) kab
          have h4 := (hfz ⟨W.heap.size + 1, 0, none⟩).trans f0
          have h5 := (hfz ⟨W.heap.size + 1, 1, none⟩).trans f1
          have HUF := Lib.hid (hwf _ _ _ (by have := HSV.out; have := HB.out.2; simp; omega) HU.out)
          have HBF : Hid (Below w.heap.size w F) := hbf _ _ (by have := HSW.out; omega) (HB.out.1.drew.trans (HBZ.out.mono (HB.out.1.drew.size)))
          have HSF : Hid (V.heap.size ≤ F.heap.size) := by show _ ≤ _; rw [hsf]; exact Nat.le_trans HB.out.2 HBZ.out.size
          clear hfar hfz hbf hwf hsf hF ka0 ka1 kab p0 p1 f0 f1
          cases o with
          | ok r =>
            go_wp2_with (go_at_call 58; refine (text_out _ (x ^ i * x) _ HUF.out.wh (HT.out.below HBF.out) HL3.out).mono ?_; rw [HO.out]; rintro e W3 ⟨he, hbz⟩; have he2 : e = .returned r := he; subst he2; have h1 := keep_cell hbz h1; have h2 := keep_cell hbz h2; have h3 := keep_cell hbz h3; have h4 := keep_free' hbz e0 h4; have h5 := keep_free' hbz e1 h5; have e0 := keep_cell hbz e0; have e1 := keep_cell hbz e1; have HU3 := Lib.hid (HUF.out.below hbz); have HB3 := Lib.hid (below_then' HBF.out hbz); have HS3 := Lib.hid (Nat.le_trans HSF.out hbz.size); clear he hbz)
            go_roundg (gk - 1)
            case measure => have h1 := HGK.out; have h2 := HLT.out; omega
            case rel =>
              obtain ⟨t1, t2, t3⟩ := HU3.out.parts
              refine ⟨i + 1, b6, .slice A9 n9 c9, by simp, by have h1 := HGK.out; have h2 := HLT.out; omega, h1, h2, h3, e0, e1, h4, h5, ⟨?_, ?_, ?_⟩, ⟨HB3.out, HS3.out⟩⟩
              · rw [Int.pow_succ]; exact t3
              · rw [Int.pow_succ]; exact t1
              · rw [Int.pow_succ]
                have := HO.out
                unfold textOut at this
                split at this
                · assumption
                · cases this
          | err k =>
            go_wp2_with (go_at_call 58; refine (text_out _ (x ^ i * x) _ HUF.out.wh (HT.out.below HBF.out) HL3.out).mono ?_; rw [HO.out]; rintro e W3 ⟨he, hbz⟩; have he2 : e = .panicked (failChain k) := he; subst he2; have HB3 := Lib.hid (below_then' HBF.out hbz); clear he hbz)
            refine ⟨rfl, ?_, HB3.out⟩
            have hk : k = 3 ∧ ¬ (x ^ i * x).natAbs < 10 ^ 200 := by
              have := HO.out
              unfold textOut at this
              split at this
              · cases this
              · rename_i hh; cases this; exact ⟨rfl, hh⟩
            obtain ⟨rfl, hbig⟩ := hk
            have hgr : (x ^ (i + 1)).natAbs ≤ (x ^ N).natAbs := pow_grow (by have h0 := HLT.out; have hh := HCC.out; omega) HLT.out
            rw [Int.pow_succ] at hgr
            rw [show textOut (x ^ N) = .err 3 from if_neg (by omega)]
            rfl
      · have hiN : i = N := by omega
        have HIN := Lib.hid hiN
        have HWI : Hid (Wh wr (.agg #[.bool bz, .slice A8 n8 c8]) (x ^ N)) := ⟨_, by rw [← hiN, ← HG.out.1], by rw [← hiN]; exact HG.out.2.1⟩
        have HLN : Hid ((dg 1000000000 (x ^ N).natAbs).length ≤ 1000000) := by rw [← hiN]; exact Nat.le_trans (len23 HG.out.2.2) (by decide)
        have HO : Hid (textOut (x ^ N) = .ok (.string ⟨(Lib.itoa (x ^ N)).toArray⟩)) := if_pos (by rw [← hiN]; exact HG.out.2.2)
        have HTW := Lib.hid (HT.out.below HB.out.1)
        clear hg hlt
        subst hiN
        go_wp2_with (go_at_call 58; refine (text_out _ (x ^ i) _ HWI.out HTW.out HLN.out).mono ?_; rw [HO.out]; rintro e W3 ⟨he, hbz⟩; have he2 : e = .returned (.string ⟨(Lib.itoa (x ^ i)).toArray⟩) := he; subst he2; have HB3 := Lib.hid (below_then' HB.out.1 hbz); clear he hbz)
        go_ret
        exact ⟨by rw [HO.out]; rfl, HB3.out⟩

theorem powOut_some {x : Int} {n : Int} (hn : 0 ≤ n) : powOut x n = textOut (x ^ n.toNat) := if_neg (by omega)

theorem pow1_c (lv : Value) (b : Addr) (x n : Int) (w : World) (h : Whs w lv [x]) (ht : Tabs w) (hb : w.cell? b = some (.int .i64 n)) (hn : n ≤ 9223372036854775807) (hx : x.natAbs < 10 ^ 200) :
    Calls Tryz.prog 59 #[lv, .pointer (some b)] w fun e w' => e = (powOut x n).end_ ∧ Below w.heap.size w w' := by
  by_cases h0 : n < 0
  · rw [show powOut x n = .err 5 from if_pos h0]
    exact pow1_neg lv b x n w h hb h0
  · obtain ⟨N, rfl⟩ := Int.eq_ofNat_of_zero_le (Int.not_lt.1 h0)
    rw [powOut_some (by omega), Int.toNat_natCast]
    by_cases hc : N = 0 ∨ 2 ≤ x.natAbs
    · exact pow1_big lv b x N w h ht hb (by omega) hx hc
    · have hN : 0 < N := by omega
      have hs := pow_small (x := x) (n := N) (by omega) hN
      rcases Nat.eq_zero_or_pos x.natAbs with h1 | h1
      · have hx0 : x = 0 := by omega
        subst hx0
        rw [Int.zero_pow (by omega)]
        exact pow1_zero lv b _ w h ht hb (by omega)
      · have hx1 : x.natAbs = 1 := by omega
        refine pow1_unit lv b x _ _ _ w h ht hb (by omega) hx1 rfl ?_
        rw [hs, if_neg (by omega : ¬ x = 0)]
        have e : ((N : Int) % 2 == 1) = decide (N % 2 = 1) := by
          rw [Bool.eq_iff_iff]; simp; omega
        rw [e]
        by_cases h2 : x < 0 ∧ N % 2 = 1
        · rw [if_pos h2, if_pos (by simp [h2.1, h2.2])]
        · rw [if_neg h2, if_neg (by intro e2; rw [Bool.and_eq_true, decide_eq_true_iff, decide_eq_true_iff] at e2; exact h2 e2)]

set_option maxHeartbeats 1000000 in
theorem numPow_c (S : ByteArray) (n : Int) (hn : n ≤ 9223372036854775807) (w : World) (ht : Tabs w) : Calls Tryz.prog 20 #[.string S, .int .i64 n] w (Un S (fun x => powOut x n) (.string ⟨#[]⟩) w) := by
  have HT := Lib.hid ht
  have HN := Lib.hid hn
  clear ht hn
  go_enter Tryz.func20, Tryz.ntmps20
  go_wp2_with (go_at_call 55; refine (withStr_c 59 #[.pointer (some ⟨w.heap.size, 0, none⟩)] (enters_of Tryz.func59 (by kernel_rfl) rfl) _ [S] (fun zs => powOut (zs.headD 0) n) _ (by have := strs_one (w.alloc (.cells #[.int .i64 n] 3)) S 9; simpa using this) (by simp) ?hf).mono ?_)
  case hf =>
    intro zs hz W lv hb hw
    obtain ⟨x, rfl, hx⟩ := one_zs hz
    have hc : ((w.alloc (.cells #[.int .i64 n] 3)).alloc (.cells #[.string S] 9)).cell? ⟨w.heap.size, 0, none⟩ = some (.int .i64 n) := keep_cell ((Below.refl _ _).alloc (Nat.le_refl _) _) (new_cell w #[.int .i64 n] 3 0)
    exact pow1_c lv ⟨w.heap.size, 0, none⟩ x n W hw (HT.out.below (Below.trans (((Below.refl w.heap.size w).alloc (Nat.le_refl _) _).alloc (by simp) _) (hb.mono (by simp; omega)))) (keep_cell hb hc) HN.out hx.2
  rintro e w' h
  obtain ⟨a, b, rfl, hr⟩ := with_one (f := fun x => powOut x n) h (((Below.refl w.heap.size w).alloc (Nat.le_refl _) _).alloc (by simp) _)
  have HR := Lib.hid hr
  clear h hr
  go_wp2
  go_ret2
  exact HR.out

end Go.Proofs.YtbjgpbdkofadiaaGreatDoor
