/- Package real: the root. -/
import Derived.Test.YtekbfommnmikbaaGreatDoorRealN
import Derived.BigRegion
namespace Go.Proofs.YtekbfommnmikbaaGreatDoor
set_option linter.unusedVariables false
set_option linter.unusedSimpArgs false
open Go.RowKit Go.Shelf Go.Proofs
attribute [local go_sem ↓] Go.wp_at_zero Go.wp_at_succ

set_option maxHeartbeats 1000000 in
theorem roots_c (v : Value) (A : Option Addr) (n c : Nat) (hv : v = .slice A n c) (w : World) : Calls Tryz.prog 180 #[v] w fun en w' => en = .returned (.func (.func 219) #[] #[.pointer (some ⟨w.heap.size, 0, none⟩)]) ∧ w' = w.alloc (.cells #[.slice A n c] 93) := by
  subst hv
  go_enter Tryz.func180, Tryz.ntmps180
  go_wp2_with fail
  go_ret
  exact ⟨rfl, rfl⟩

/-- The digits whose pairs are taken, and their exponent. -/
def rootL (M : Nat) (xe : Int) : List Int := if xe.tmod 2 = 0 then (dg 10 M).reverse else [0] ++ (dg 10 M).reverse ++ [0]
def rootE (xe : Int) : Int := if xe.tmod 2 = 0 then xe else xe - 1

set_option maxRecDepth 100000 in
set_option maxHeartbeats 4000000 in
theorem root_c (M : Nat) (xe : Int) (w : World) (hx : RV M xe) (h0 : 0 < M) :
    Calls Tryz.prog 122 #[.agg #[.int .i64 (M : Int), .int .i64 xe]] w fun en w' => ∃ v, en = .returned v ∧ Amt w' v false (firsts (ritem (rootL M xe)) 14) ((rootE xe).tdiv 2 + (((rootL M xe).length / 2 : Nat) : Int) - 14) (lastMore (ritem (rootL M xe)) 14) ∧ Below w.heap.size w w' := by
  obtain ⟨W, hW, k0, k1, hbel, hsz⟩ := bx2h w #[.int .i64 (M : Int), .int .i64 xe] #[.bool false, .slice none 0 0, .int .i64 0, .bool false] 23 95
  have hx12 : (dg 10 M).reverse.length = 12 := by
    rw [List.length_reverse]
    rcases RV_nd hx with h | h
    · exact absurd (nd_pos h0) (by omega)
    · exact h
  have hxe : -111 ≤ xe ∧ xe ≤ 88 := (RV_abs (m := (M : Int)) hx).2
  have hx18 : M < 10 ^ 18 := by have := (RV_abs (m := (M : Int)) hx).1; omega
  have hin := inR_dgR M
  have c00 := cell_of_heap k0 0; have c01 := cell_of_heap k0 1
  simp at c00 c01
  have HSS : Hid (∀ w', Bel (w.heap.size + 2) W w' → w'.cell? ⟨w.heap.size, 0, none⟩ = some (.int .i64 (M : Int)) ∧ w'.cell? ⟨w.heap.size, 1, none⟩ = some (.int .i64 xe) ∧ Bel (w.heap.size + 2) W w') := fun w' h => ⟨(h.to_.cell (p := ⟨w.heap.size, 0, none⟩) (by simp)).trans c00, (h.to_.cell (p := ⟨w.heap.size, 1, none⟩) (by simp)).trans c01, h⟩
  have hbl := Bel.refl (w.heap.size + 2) W (by omega)
  have HK1 := Lib.hid k1; have HBEL := Lib.hid hbel; have HSZ := Lib.hid hsz
  obtain ⟨dl, hdl⟩ : ∃ dl, (dg 10 M).reverse = dl := ⟨_, rfl⟩
  have hrl : rootL M xe = if xe.tmod 2 = 0 then dl else [0] ++ dl ++ [0] := by rw [← hdl]; rfl
  rw [hdl] at hx12 hin
  have HDL := Lib.hid hdl; have HRL := Lib.hid hrl; have H12 := Lib.hid hx12; have HIN := Lib.hid hin
  obtain ⟨x1, x2⟩ := hxe
  clear k0 k1 hbel hsz hx12 hin hdl hrl hx
  go_enter Tryz.func122, Tryz.ntmps122
  go_upto_region 1 with fail
  go_region_held3 (fun w' => w'.cell? ⟨w.heap.size, 0, none⟩ = some (.int .i64 (M : Int)) ∧ w'.cell? ⟨w.heap.size, 1, none⟩ = some (.int .i64 xe) ∧ Bel (w.heap.size + 2) W w')
    ((go_split_ands; (with_reducible refine HSS.out _ ?_); (repeat (first | (with_reducible assumption) | (with_reducible refine Bel.call ?_ hbz) | (with_reducible refine Bel.alloc ?_ _) | (with_reducible refine Bel.drew ?_) | (with_reducible refine Bel.set ?_ _ (by first | exact Nat.le_refl _ | (simp; done) | (simp; omega)))))))
    (first
      | (go_at_call 89; (with_reducible refine (digitsOf_c M _ hx18).mono ?_); rintro en w2 ⟨v, rfl, hv, hf, hbz⟩; rw [HDL.out] at hv; obtain ⟨A9, c9, rfl, hc9, hm9, hr9⟩ := hv; rw [H12.out] at hc9; rw [H12.out]; have HR9 := Lib.hid hr9; have HC9 := Lib.hid (And.intro hc9 hm9); go_split_ands; have HB9 := Lib.hid (below_then' (show Below W.heap.size W _ from by first | exact Below.refl _ _ | exact (Below.refl _ _).drew) hbz); clear hr9 hf hc9 hm9))
  obtain ⟨I0, hi, hz0, hz1, hz3⟩ := info_parts info_byte
  have HI := Lib.hid (And.intro hi (And.intro hz0 (And.intro hz1 hz3)))
  clear hi hz0 hz1 hz3
  have hz2 : W.heap.size ≤ w2.heap.size := HB9.out.size
  go_upto_if 15 with fail
  go_cut [3, 4] from 15 to 22 (fun v3 v4 wx => ∃ A n c, v3 = .slice A n c ∧ v4 = .int .i64 (rootE xe) ∧ (n ≤ c ∧ c ≤ 9223372036854775807) ∧ Hid ((rootL M xe).length = n) ∧ Hid (InR 10 (rootL M xe)) ∧ (n = 12 ∨ n = 14) ∧ Hid (Row .u8 wx A (rootL M xe)) ∧ Hid (Below W.heap.size W wx))
  case first =>
    by_cases hev : xe.tmod 2 = 0
    · have hE : rootE xe = xe := by unfold rootE; rw [if_pos hev]
      have hl := HRL.out
      rw [if_pos hev] at hl
      have HLL := Lib.hid hl
      clear hl
      go_wp2_with fail
      go_meet
      exact ⟨A9, 12, c9, rfl, by rw [hE], HC9.out, by show _ = _; rw [HLL.out]; exact H12.out, by show InR _ _; rw [HLL.out]; exact HIN.out, .inl rfl, by show Row _ _ _ _; rw [HLL.out]; exact HR9.out, HB9.out⟩
    · have hE : rootE xe = xe - 1 := by unfold rootE; rw [if_neg hev]
      have hl := HRL.out
      rw [if_neg hev] at hl
      have HLL := Lib.hid hl
      clear hl
      obtain ⟨a, rfl, -⟩ := HR9.out 0 (by rw [H12.out]; omega)
      have hnews : Hid (∀ (w' : World), Below w2.heap.size w2 w' → ∀ j u, (dl.map (Value.int .u8))[j]? = some u → w'.cell? (a.add j) = some u) := fun w' hb j u hu => by
        have hj : j < dl.length := by
          have := (List.getElem?_eq_some_iff.1 hu).1
          simpa using this
        obtain ⟨a', e, hc⟩ := (HR9.out.below hb) j hj
        cases e
        rw [hc, ← hu, List.getElem?_map, List.getElem?_eq_getElem hj]
        rfl
      have HE := Lib.hid hE
      clear hE
      go_wp2_with (first
        | (at_builtin; refine wpList_append_own _ rfl _ _ 93 rfl W.heap.size 5 I0 (.int .u8 0) 1 1 Tryz.underlying93 HI.out.1 HI.out.2.1 HI.out.2.2.1 HI.out.2.2.2 rfl (by decide) _ 1 [.int .u8 0] rfl (World.ownsRow_lit w2 #[.int .u8 0] 1 hz2 (by unfold maxLen; omega) rfl) a 12 c9 (dl.map (Value.int .u8)) rfl (by rw [List.length_map, H12.out]) (hnews.out _ ((Below.refl _ _).alloc (Nat.le_refl _) _)) (fun u hu => by obtain ⟨x, -, rfl⟩ := List.mem_map.1 hu; rfl) (by unfold maxLen; omega) (by omega) (by simp; omega) ?_; intro v' w3 hown3 hgrow3 _; obtain ⟨g3, cap3, rfl⟩ := own_some' hown3 (by omega); have HO3 := Lib.hid hown3; have HG3 := Lib.hid hgrow3; clear hown3 hgrow3)
        | (at_builtin; refine wpList_append_own _ rfl _ _ 93 rfl W.heap.size 5 I0 (.int .u8 0) 1 1 Tryz.underlying93 HI.out.1 HI.out.2.1 HI.out.2.2.1 HI.out.2.2.2 rfl (by decide) _ (1 + 12) ([.int .u8 0] ++ dl.map (Value.int .u8)) rfl (HO3.out.alloc _) ⟨w3.heap.size, 0, none⟩ 1 1 [.int .u8 0] rfl rfl (cell_one_new _ _ _) (by simp [Value.oneCell']) (by unfold maxLen; omega) (by omega) (by have := HG3.out.size; simp at this; simp; omega) ?_; intro v' w4 hown4 hgrow4 _; obtain ⟨g4, cap4, rfl⟩ := own_some' hown4 (by omega); have HO4 := Lib.hid hown4; have HG4 := Lib.hid hgrow4; clear hown4 hgrow4))
      have hb3 : Below W.heap.size w2 w3 := ((Below.refl W.heap.size w2).alloc hz2 _).grown HG3.out (by simp; omega) (own_from (World.ownsRow_lit (base := W.heap.size) (e := 5) (size := 1) w2 #[.int .u8 0] 1 hz2 (by unfold maxLen; omega) rfl))
      have hz3 : W.heap.size ≤ w3.heap.size := Nat.le_trans hz2 hb3.size
      have hb4 : Below W.heap.size w3 w4 := ((Below.refl W.heap.size w3).alloc hz3 _).grown HG4.out (by simp; omega) (own_from HO3.out)
      have ho4 := HO4.out
      rw [show ([.int .u8 0] ++ dl.map (Value.int .u8)) ++ [.int .u8 0] = ([0] ++ dl ++ [0]).map (Value.int .u8) by simp] at ho4
      obtain ⟨A4, c4, e4, h1, h2, h3, -⟩ := own_row ho4
      simp only [Value.slice.injEq] at e4
      obtain ⟨rfl, -, rfl⟩ := e4
      have hcm : cap4 ≤ 9223372036854775807 := by unfold maxLen at h2; omega
      have h14 : ([0] ++ dl ++ [0]).length = 14 := by simp [H12.out]
      rw [h14] at h1
      go_wp2_with fail
      go_meet
      exact ⟨_, 14, cap4, rfl, by rw [HE.out], ⟨h1, hcm⟩, by show _ = _; rw [HLL.out]; exact h14, by show InR _ _; rw [HLL.out]; intro x hx; simp at hx; rcases hx with rfl | hx | rfl; exact ⟨by decide, by decide⟩; exact HIN.out x hx; exact ⟨by decide, by decide⟩, .inr rfl, by show Row _ _ _ _; rw [HLL.out]; exact h3, HB9.out.trans (hb3.trans hb4)⟩
  case rest =>
    obtain ⟨A, n, c, rfl, rfl, ⟨hnc, hcm⟩, HLN, HIL, hn, HRW, HBW⟩ := hcut
    obtain ⟨ls, hls⟩ : ∃ ls, rootL M xe = ls := ⟨_, rfl⟩
    rw [hls] at HLN HIL HRW
    obtain ⟨E, hE⟩ : ∃ E, rootE xe = E := ⟨_, rfl⟩
    have hE1 : -112 ≤ E ∧ E ≤ 88 := by rw [← hE]; unfold rootE; split <;> omega
    rw [hE]
    have HLS := Lib.hid hls; have HEE := Lib.hid hE
    obtain ⟨e1, e2⟩ := hE1
    have hzc : W.heap.size ≤ wc.heap.size := HBW.out.size
    obtain ⟨q, hq⟩ : ∃ q, E.tdiv 2 = q := ⟨_, rfl⟩
    have hq1 : -60 ≤ q ∧ q ≤ 60 := by
      have h1 := Int.mul_tdiv_add_tmod E 2
      have h2 : -2 < E.tmod 2 ∧ E.tmod 2 < 2 := by
        rcases Int.le_total 0 E with h | h
        · obtain ⟨k, rfl⟩ := Int.eq_ofNat_of_zero_le h
          have : ((k : Int).tmod 2) = ((k % 2 : Nat) : Int) := rfl
          rw [this]; omega
        · obtain ⟨k, hk⟩ := Int.eq_ofNat_of_zero_le (show 0 ≤ -E by omega)
          obtain rfl : E = -(k : Int) := by omega
          have : ((k : Int).tmod 2) = ((k % 2 : Nat) : Int) := rfl
          rw [Int.neg_tmod, this]; omega
      omega
    obtain ⟨q1, q2⟩ := hq1
    obtain ⟨h, hh⟩ : ∃ h : Nat, n / 2 = h := ⟨_, rfl⟩
    have hhi : (n : Int) / 2 = (h : Int) := by omega
    have hh7 : h ≤ 7 := by omega
    have HH := Lib.hid hh
    obtain ⟨more, hmore⟩ : ∃ more, lastMore (ritem ls) 14 = more := ⟨_, rfl⟩
    have HMO := Lib.hid hmore
    clear hls hE hh hmore
    go_wp2_with (first
      | (go_at_call 180; refine (roots_c _ A n c rfl _).mono ?_; rintro en wq ⟨rfl, hwq⟩; have hq0 : wq.heap[wc.heap.size]? = some (.cells #[.slice A n c] 93 (0, 0)) := (by rw [hwq]; exact heap_alloc_new wc _); have hzq : wq.heap.size = wc.heap.size + 1 := (by rw [hwq]; simp); have hbq : Below wc.heap.size wc wq := (by rw [hwq]; exact (Below.refl _ _).alloc (Nat.le_refl _) _); have HQ0 := Lib.hid hq0; have HBQ := Lib.hid hbq; clear hwq hq0 hbq)
      | (go_at_call 178; refine (taken_c 219 _ (ritem ls) 14 wc.heap.size wq (enters_of Tryz.func219 (by kernel_rfl) rfl) (rt1_endless A c ls wc.heap.size n 14 wq HIL.out HLN.out (by omega) (by omega) (by decide) (by omega) HQ0.out (HRW.out.below HBQ.out)) (by omega) (ritem_dig ls) (by decide) (by decide)).mono ?_; rintro en W9 ⟨A8, c8, rfl, hc8, hm8, hr8, hk8⟩; have HR8 := Lib.hid hr8; have HC8 := Lib.hid (And.intro hc8 hm8); have HK8 := Lib.hid hk8; have qx := hk8.heap (heapB HBQ.out (heapB HBW.out HK1.out)) (by have := HSZ.out; omega); have HQX := Lib.hid qx; have p0 := cell_of_heap qx 0; have p1 := cell_of_heap qx 1; have p2 := cell_of_heap qx 2; have p3 := cell_of_heap qx 3; have y0 := free_of_heap qx 0; have y1 := free_of_heap qx 1; have y2 := free_of_heap qx 2; have y3 := free_of_heap qx 3; simp at p0 p1 p2 p3; clear hr8 hc8 hm8 hk8 qx; rw [HMO.out]))
    obtain ⟨F, hF, hb, hk, ho⟩ := amt_put (s := false) (n := 14) (c := c8) (A := A8) (e := q + h - 14) (more := more) HQX.out
    rw [hF]
    have r0 := cell_of_heap hb 0; have r1 := cell_of_heap hb 1; have r2 := cell_of_heap hb 2; have r3 := cell_of_heap hb 3
    simp at r0 r1 r2 r3
    refine bodyPost_ret (v := .agg #[.bool false, .slice A8 14 c8, .int .i64 (q + h - 14), .bool more]) (by simp [results, Tryz.results122, go_sem, r0, r1, r2, r3]) rfl ?_
    rw [HLS.out, HEE.out, hq, HLN.out, HH.out, HMO.out]
    have hl := firsts_length (ritem ls) 14
    have hzw := HSZ.out
    exact ⟨_, rfl, ⟨A8, c8, by rw [hl], by rw [hl]; exact HC8.out.1, HC8.out.2, row_off HR8.out HQX.out amt_cells ho⟩, hk _ _ (by omega) (HBEL.out.trans ((HBW.out.mono (by omega)).trans ((HBQ.out.mono (by omega)).trans ((HK8.out.below (by omega)).mono (by omega)))))⟩
end Go.Proofs.YtekbfommnmikbaaGreatDoor
