/- The law's power. -/
import Derived.Test.YtbjgpbdkofadiaaGreatDoorRefP
import Derived.Test.YtbjgpbdkofadiaaGreatDoorRefR
namespace Go.Proofs.YtbjgpbdkofadiaaGreatDoor
set_option linter.unusedVariables false
set_option linter.unusedSimpArgs false
open Go.RowKit Go.Shelf

/-- What power returns. -/
def RPowP (x : Int) (n : Nat) (w : World) (e : Ending) (w' : World) : Prop :=
  ∃ A k c b ok z, e = .returned (.tuple #[.agg #[.slice A k c, .bool b], .bool ok]) ∧ Ri w' (.agg #[.slice A k c, .bool b]) z ∧ (ok = true → z = x ^ n) ∧ (ok = decide ((x ^ n).natAbs < 10 ^ 200)) ∧ Below w.heap.size w w'
theorem one_fit : (1 : Int).natAbs < 10 ^ 200 := by decide
theorem pow_big {x : Int} {i n : Nat} (hx : 2 ≤ x.natAbs) (hi : i ≤ n) (h : ¬ (x ^ i).natAbs < 10 ^ 200) : decide ((x ^ n).natAbs < 10 ^ 200) = false :=
  decide_eq_false fun h2 => h (Nat.lt_of_le_of_lt (pow_grow (by omega) hi) h2)
/-- The first digit of a number that has just one. -/
theorem one_digit {m : Nat} (h : 2 ≤ m) (hl : (dg 10 m).length = 1) : (dg 10 m)[0]?.getD 0 ≠ 1 := by
  have h10 : m < 10 := by have := (dg_length_le (b := 10) (by decide) m 1).1 (by omega); simpa using this
  rw [dg_single (by decide) (by omega) h10]
  simp; omega

set_option maxRecDepth 100000 in
set_option maxHeartbeats 4000000 in
theorem rpower_c (v : Value) (x : Int) (n : Nat) (w : World) (h : Ri w v x) (hx : x.natAbs < 10 ^ 200) (hn : (n : Int) ≤ 9223372036854775807) :
    Calls Tryz.prog 24 #[v, .int .i64 (n : Int)] w (RPowP x n w) := by
  obtain ⟨A1, n1, c1, b1, rfl⟩ := h.form
  obtain ⟨hn1, hb1⟩ := ri_parts h
  obtain ⟨p, e1, hp1⟩ := h
  have hd : Dg 10 w (.slice A1 n1 c1) x.natAbs := by
    obtain ⟨e, -⟩ := (by simpa using e1 : _ ∧ _)
    rw [e]; exact hp1
  obtain ⟨W, hW, hh0, hh1, hbel, hsz⟩ := boxes2h w #[.slice A1 n1 c1, .bool b1] #[.slice none 0 0, .bool false] 32 32
  have HX2 : Hid (Rx W w.heap.size x) := ⟨_, _, _, _, _, hh0, _, by rw [← hb1], hd.below hbel.to⟩
  have HX4 : Hid (Rx W (w.heap.size + 1) 0) := rx_zero hh1
  have HB0 := Lib.hid hbel.to
  have HH0 := Lib.hid hh0; have HH1 := Lib.hid hh1
  have HN1 := Lib.hid hn1; have HB1 := Lib.hid hb1; have HX := Lib.hid hx
  have HD := Lib.hid (hd.below hbel.to)
  have HSZ := Lib.hid hsz
  clear hh0 hh1 hbel hsz hn1 hb1 e1 hp1 hd hx
  go_enter Tryz.func24, Tryz.ntmps24
  go_upto_region 1 with fail
  try rw [hW]
  clear hW
  go_upto_region 2 with (go_at_call 23; (with_reducible refine (rof_c ⟨#[49]⟩ 1 _ num_one).mono ?_); rintro e W2 ⟨u, rfl, hu, hbz⟩; obtain ⟨A2, n2, c2, b2, rfl⟩ := hu.form; have HU := Lib.hid hu; have HB2 := Lib.hid hbz; clear hu hbz)
  have k1 : Below W2.heap.size W2 (W2.alloc (.cells #[.slice A2 n2 c2, .bool b2] 32)) := (Below.refl _ _).alloc (Nat.le_refl _) _
  have r6 := rx_new W2 32 HU.out
  go_upto_region 3 with fail
  have k2 : Below (W2.alloc (.cells #[.slice A2 n2 c2, .bool b2] 32)).heap.size (W2.alloc (.cells #[.slice A2 n2 c2, .bool b2] 32)) ((W2.alloc (.cells #[.slice A2 n2 c2, .bool b2] 32)).alloc (.cells #[.slice A2 n2 c2, .bool b2] 32)) := (Below.refl _ _).alloc (Nat.le_refl _) _
  have r7 := rx_new (W2.alloc (.cells #[.slice A2 n2 c2, .bool b2] 32)) 32 (HU.out.below k1)
  have h6 := heap_below (heap_alloc_new W2 (.cells #[.slice A2 n2 c2, .bool b2] 32)) k2
  have h7 := heap_alloc_new (W2.alloc (.cells #[.slice A2 n2 c2, .bool b2] 32)) (.cells #[.slice A2 n2 c2, .bool b2] 32)
  have hz7 : (W2.alloc (.cells #[.slice A2 n2 c2, .bool b2] 32)).heap.size = W2.heap.size + 1 := by simp
  rw [hz7] at r7 h7
  have k3 := below_then' HB2.out (below_then' k1 k2)
  obtain ⟨V, hV⟩ : ∃ V, (W2.alloc (.cells #[.slice A2 n2 c2, .bool b2] 32)).alloc (.cells #[.slice A2 n2 c2, .bool b2] 32) = V := ⟨_, rfl⟩
  rw [hV] at k2 k3 r7 h6 h7 ⊢
  have HB := Lib.hid (below_then' HB0.out k3)
  have HX2 := Lib.hid (HX2.out.below k3)
  have hh4 : V.heap[w.heap.size + 1]? = some (.cells #[.slice none 0 0, .bool false] 32 (0, 0)) := heap_below HH1.out k3
  have hh2 := heap_below HH0.out k3
  have HH4 := Lib.hid hh4; have HH2 := Lib.hid hh2
  have HDV := Lib.hid (HD.out.below k3)
  have HOV : Hid (Ri V (.agg #[.slice A2 n2 c2, .bool b2]) 1) := Lib.hid ((HU.out.below k1).below k2)
  have HR7 := Lib.hid r7
  have c20 := box0 hh2; have c21 := box1 hh2; have c40 := box0 hh4; have c41 := box1 hh4; have f40 := free_of_heap hh4 0; have f41 := free_of_heap hh4 1
  have c60 := box0 h6; have c61 := box1 h6; have c70 := box0 h7; have c71 := box1 h7
  have hq : w.heap.size + 1 < W2.heap.size := by have := HB2.out.size; have := HSZ.out; omega
  obtain ⟨P6, hP6⟩ : ∃ P6, W2.heap.size = P6 := ⟨_, rfl⟩
  rw [hP6] at HR7 c60 c61 c70 c71 hq ⊢
  clear k1 k2 k3 r6 r7 h6 h7 hz7 hV hP6 hh2 hh4 HU HB2 HB0 HD HX4 HH0
  have HRX : Hid (Ri V (.agg #[.slice A1 n1 c1, .bool b1]) x) := ⟨_, by rw [HB1.out], HDV.out⟩
  by_cases hx0 : x = 0
  · obtain rfl : n1 = 0 := by rw [HN1.out, hx0, Int.natAbs_zero, dg_zero]; rfl
    by_cases hn0 : n = 0
    · subst hn0
      go_wp2_with fail
      go_loopg [8] 0 (fun g iv wr => iv = .int .i64 0 ∧ wr = V)
      case atStart => exact ⟨rfl, rfl⟩
      case round =>
        obtain ⟨rfl, rfl⟩ := hrel
        go_wp2_with fail
        obtain ⟨F, hF, r0, r1, hr, hbf⟩ := ri_put HOV.out HH4.out
        try rw [hF]
        refine bodyPost_ret (v := .tuple #[.agg #[.slice A2 n2 c2, .bool b2], .bool true]) (by simp [results, Tryz.results24, go_sem, r0, r1]) rfl ?_
        exact ⟨_, _, _, _, _, _, rfl, hr, fun _ => by rw [Int.pow_zero], (decide_eq_true (by rw [Int.pow_zero]; exact one_fit)).symm, hbf _ _ (by omega) HB.out⟩
    · have hnp : 0 < n := by omega
      go_wp2_with fail
      obtain ⟨F, hF, r0, r1, hr, hbf⟩ := ri_put HRX.out HH4.out
      try rw [hF]
      refine bodyPost_ret (v := .tuple #[.agg #[.slice A1 0 c1, .bool b1], .bool true]) (by simp [results, Tryz.results24, go_sem, r0, r1]) rfl ?_
      exact ⟨_, _, _, _, _, _, rfl, hr, fun _ => by rw [hx0, Int.zero_pow hn0], (decide_eq_true (by rw [hx0, Int.zero_pow hn0]; decide)).symm, hbf _ _ (by omega) HB.out⟩
  · by_cases hx1 : x.natAbs = 1
    · obtain rfl : n1 = 1 := by rw [HN1.out, hx1]; rw [dg_single (by decide) (by decide) (by decide)]; rfl
      obtain ⟨A', c', e', hc', hm', hr'⟩ := HDV.out
      obtain ⟨a1, rfl, hcell⟩ : ∃ a, A1 = some a ∧ V.cell? a = some (.int .i64 1) := by
        have hl : 0 < (dg 10 x.natAbs).length := by rw [← HN1.out]; decide
        obtain ⟨a, rfl, h⟩ := hr' 0 hl
        rw [addr_zero, hx1, dg_single (by decide) (by decide) (by decide)] at h
        obtain ⟨rfl, -⟩ := Value.slice.inj e'
        exact ⟨a, rfl, h⟩
      clear e' hc' hm' hr'
      by_cases hneg : x < 0
      · obtain rfl : b1 = true := by rw [HB1.out]; simpa using hneg
        have hxe : x = -1 := by omega
        have hp2 : ∀ k : Nat, (-1 : Int) ^ (2 * k) = 1 := fun k => by rw [Int.pow_mul]; simp [Int.one_pow]
        by_cases hod : n % 2 = 1
        · have hodd : (n : Int) % 2 = 1 := by omega
          have HPW : Hid (x ^ n = x) := by show _ = _; rw [hxe, show n = 2 * (n / 2) + 1 by omega, Int.pow_add, hp2]; rfl
          clear hp2
          go_wp2_with fail
          obtain ⟨F, hF, r0, r1, hr, hbf⟩ := ri_put HRX.out HH4.out
          try rw [hF]
          refine bodyPost_ret (v := .tuple #[.agg #[.slice (some a1) 1 c1, .bool true], .bool true]) (by simp [results, Tryz.results24, go_sem, r0, r1]) rfl ?_
          exact ⟨_, _, _, _, _, _, rfl, hr, fun _ => HPW.out.symm, (decide_eq_true (by rw [HPW.out]; exact HX.out)).symm, hbf _ _ (by omega) HB.out⟩
        · have hodd : (n : Int) % 2 = 0 := by omega
          have HPW : Hid (x ^ n = 1) := by show _ = _; rw [hxe, show n = 2 * (n / 2) by omega, hp2]
          clear hp2
          go_wp2_with fail
          obtain ⟨F, hF, r0, r1, hr, hbf⟩ := ri_put HOV.out HH4.out
          try rw [hF]
          refine bodyPost_ret (v := .tuple #[.agg #[.slice A2 n2 c2, .bool b2], .bool true]) (by simp [results, Tryz.results24, go_sem, r0, r1]) rfl ?_
          exact ⟨_, _, _, _, _, _, rfl, hr, fun _ => HPW.out.symm, (decide_eq_true (by rw [HPW.out]; exact one_fit)).symm, hbf _ _ (by omega) HB.out⟩
      · obtain rfl : b1 = false := by rw [HB1.out]; simpa using hneg
        have hxe : x = 1 := by omega
        have HPW : Hid (x ^ n = 1) := by show _ = _; rw [hxe, Int.one_pow]
        clear hxe
        go_wp2_with fail
        obtain ⟨F, hF, r0, r1, hr, hbf⟩ := ri_put HOV.out HH4.out
        try rw [hF]
        refine bodyPost_ret (v := .tuple #[.agg #[.slice A2 n2 c2, .bool b2], .bool true]) (by simp [results, Tryz.results24, go_sem, r0, r1]) rfl ?_
        exact ⟨_, _, _, _, _, _, rfl, hr, fun _ => HPW.out.symm, (decide_eq_true (by rw [HPW.out]; exact one_fit)).symm, hbf _ _ (by omega) HB.out⟩
    · have h2 : 2 ≤ x.natAbs := by omega
      have H2X := Lib.hid h2
      have HRX := Lib.hid HRX
      by_cases hl : n1 = 1
      · subst hl
        obtain ⟨A', c', e', hc', hm', hr'⟩ := HDV.out
        have hod := one_digit h2 HN1.out.symm
        obtain ⟨a1, rfl, hcell⟩ : ∃ a, A1 = some a ∧ V.cell? a = some (.int .i64 ((dg 10 x.natAbs)[0]?.getD 0)) := by
          have hl : 0 < (dg 10 x.natAbs).length := by rw [← HN1.out]; decide
          obtain ⟨a, rfl, h⟩ := hr' 0 hl
          rw [addr_zero] at h
          obtain ⟨rfl, -⟩ := Value.slice.inj e'
          exact ⟨a, rfl, h⟩
        obtain ⟨d, hd⟩ : ∃ d, (dg 10 x.natAbs)[0]?.getD 0 = d := ⟨_, rfl⟩
        rw [hd] at hcell hod
        have hdd : (d == 1) = false := by simpa using hod
        clear e' hc' hm' hr' hd hod hx1 hx0 h2
        go_wp2_with fail
        go_loopg [8] n (fun g iv wr => ∃ i : Nat, iv = .int .i64 (i : Int) ∧ i + g = n ∧ Hid (Rx wr (P6 + 1) (x ^ i) ∧ (x ^ i).natAbs < 10 ^ 200) ∧ Hid (wr.heap[w.heap.size]? = some (.cells #[.slice (some a1) 1 c1, .bool b1] 32 (0, 0))) ∧ Hid (Ri wr (.agg #[.slice (some a1) 1 c1, .bool b1]) x) ∧ Hid (wr.heap[w.heap.size + 1]? = some (.cells #[.slice none 0 0, .bool false] 32 (0, 0))) ∧ Hid (Below w.heap.size w wr))
        case atStart => exact ⟨0, rfl, by omega, ⟨by rw [Int.pow_zero]; exact HR7.out, by rw [Int.pow_zero]; exact one_fit⟩, HH2.out, HRX.out, HH4.out, HB.out⟩
        case round =>
          obtain ⟨i, rfl, hg, HI, HH2, HRX, HH4, HB⟩ := hrel
          obtain ⟨A7, n7, c7, b7, t7, h7, hi7⟩ := HI.out.1
          have c20 := box0 HH2.out; have c21 := box1 HH2.out; have c40 := box0 HH4.out; have c41 := box1 HH4.out; have f40 := free_of_heap HH4.out 0; have f41 := free_of_heap HH4.out 1
          have c70 := box0 h7; have c71 := box1 h7; have f70 := free_of_heap h7 0; have f71 := free_of_heap h7 1
          have HI7 := Lib.hid hi7
          have hlt6 : P6 + 1 < wr.heap.size := HI.out.1.lt
          clear h7 hi7
          by_cases hg0 : gk = 0
          · subst hg0
            obtain rfl : i = n := by omega
            go_wp2_with fail
            obtain ⟨F, hF, r0, r1, hr, hbf⟩ := ri_put HI7.out HH4.out
            try rw [hF]
            refine bodyPost_ret (v := .tuple #[.agg #[.slice A7 n7 c7, .bool b7], .bool true]) (by simp [results, Tryz.results24, go_sem, r0, r1]) rfl ?_
            exact ⟨_, _, _, _, _, _, rfl, hr, fun _ => rfl, (decide_eq_true HI.out.2).symm, hbf _ _ (by omega) HB.out⟩
          · obtain ⟨g, rfl⟩ : ∃ g, gk = g + 1 := ⟨gk - 1, by omega⟩
            have hlt : i < n := by omega
            have HL1 : Hid ((dg 10 (x ^ i).natAbs).length ≤ 1000000) := Nat.le_trans (len_fit HI.out.2) (by decide)
            have HL2 : Hid ((dg 10 x.natAbs).length ≤ 1000000) := Nat.le_trans (len_fit HX.out) (by decide)
            go_upto_region 13 with (go_at_call 26; (with_reducible refine (product_c _ _ (x ^ i) x _ HI7.out HRX.out HL1.out HL2.out).mono ?_); rintro e W9 ⟨u, rfl, hu, hbz⟩; obtain ⟨A8, n8, c8, b8, rfl⟩ := hu.form; have HU := Lib.hid hu; have HB9 := Lib.hid hbz; have c70 := keep_cell hbz c70; have c71 := keep_cell hbz c71; have f70 := keep_free' hbz (by assumption) f70; have f71 := keep_free' hbz (by assumption) f71; clear hu hbz)
            obtain ⟨F, hF, HP⟩ := rx_put (HI.out.1.below HB9.out) HU.out
            try rw [hF]
            clear hF c70 c71 f70 f71 c20 c21 c40 c41 f40 f41
            have e1 : x ^ i * x = x ^ (i + 1) := (Int.pow_succ ..).symm
            have hat := HP.at_
            rw [e1] at hat
            have HI2 := Lib.hid hat
            have HH2 := Lib.hid ((HP.heap w.heap.size (by omega)).trans (heap_below HH2.out HB9.out))
            have HH4 := Lib.hid ((HP.heap (w.heap.size + 1) (by omega)).trans (heap_below HH4.out HB9.out))
            have HRX := Lib.hid (HP.ri _ _ (HRX.out.below HB9.out))
            have HB := Lib.hid (HP.bel _ _ (by omega) (below_then' HB.out HB9.out))
            obtain ⟨A9, n9, c9, b9, t9, h9, hi9⟩ := hat
            have k70 := box0 h9; have k71 := box1 h9
            have HI9 := Lib.hid hi9
            clear h9 hi9 HP e1 HI
            by_cases hf : (x ^ (i + 1)).natAbs < 10 ^ 200
            · have HF : Hid (decide ((dg 10 (x ^ (i + 1)).natAbs).length ≤ 200) = true) := decide_eq_true ((fits_len _).2 hf)
              have HFF := Lib.hid hf
              clear hf
              go_wp2_with (go_at_call 31; (with_reducible refine (rfits_c _ (x ^ (i + 1)) _ HI9.out).mono ?_); rintro e W10 ⟨he, hbz⟩; rw [HF.out] at he; subst he; have HB10 := Lib.hid hbz; clear hbz)
              go_roundg g
              case measure => omega
              case rel => exact ⟨i + 1, rfl, by omega, ⟨HI2.out.below HB10.out, HFF.out⟩, heap_below HH2.out HB10.out, HRX.out.below HB10.out, heap_below HH4.out HB10.out, below_then' HB.out HB10.out⟩
            · have HF : Hid (decide ((dg 10 (x ^ (i + 1)).natAbs).length ≤ 200) = false) := decide_eq_false fun h => hf ((fits_len _).1 h)
              have HBG := Lib.hid (pow_big H2X.out (show i + 1 ≤ n by omega) hf)
              clear hf
              go_wp2_with (go_at_call 31; (with_reducible refine (rfits_c _ (x ^ (i + 1)) _ HI9.out).mono ?_); rintro e W10 ⟨he, hbz⟩; rw [HF.out] at he; subst he; have HB10 := Lib.hid hbz; have k70 := keep_cell hbz k70; have k71 := keep_cell hbz k71; have hh4 := heap_below HH4.out hbz; have HH5 := Lib.hid hh4; have z0 := box0 hh4; have z1 := box1 hh4; have y0 := free_of_heap hh4 0; have y1 := free_of_heap hh4 1; clear hbz hh4)
              obtain ⟨F, hF, r0, r1, hr, hbf⟩ := ri_put (HI9.out.below HB10.out) HH5.out
              try rw [hF]
              refine bodyPost_ret (v := .tuple #[.agg #[.slice A9 n9 c9, .bool b9], .bool false]) (by simp [results, Tryz.results24, go_sem, r0, r1]) rfl ?_
              exact ⟨_, _, _, _, _, _, rfl, hr, (fun h => absurd h (by decide)), HBG.out.symm, hbf _ _ (by omega) (below_then' HB.out HB10.out)⟩
      · have hn10 : ((n1 : Int) == 0) = false := by
          rw [beq_eq_false_iff_ne]
          intro e
          have h := dg_eq_nil (b := 10) (n := x.natAbs) (by decide)
          rw [← List.length_eq_zero_iff, ← HN1.out] at h
          omega
        have hn11 : ((n1 : Int) == 1) = false := by rw [beq_eq_false_iff_ne]; omega
        clear hl hx1 hx0 h2
        go_wp2_with fail
        go_loopg [8] n (fun g iv wr => ∃ i : Nat, iv = .int .i64 (i : Int) ∧ i + g = n ∧ Hid (Rx wr (P6 + 1) (x ^ i) ∧ (x ^ i).natAbs < 10 ^ 200) ∧ Hid (wr.heap[w.heap.size]? = some (.cells #[.slice A1 n1 c1, .bool b1] 32 (0, 0))) ∧ Hid (Ri wr (.agg #[.slice A1 n1 c1, .bool b1]) x) ∧ Hid (wr.heap[w.heap.size + 1]? = some (.cells #[.slice none 0 0, .bool false] 32 (0, 0))) ∧ Hid (Below w.heap.size w wr))
        case atStart => exact ⟨0, rfl, by omega, ⟨by rw [Int.pow_zero]; exact HR7.out, by rw [Int.pow_zero]; exact one_fit⟩, HH2.out, HRX.out, HH4.out, HB.out⟩
        case round =>
          obtain ⟨i, rfl, hg, HI, HH2, HRX, HH4, HB⟩ := hrel
          obtain ⟨A7, n7, c7, b7, t7, h7, hi7⟩ := HI.out.1
          have c20 := box0 HH2.out; have c21 := box1 HH2.out; have c40 := box0 HH4.out; have c41 := box1 HH4.out; have f40 := free_of_heap HH4.out 0; have f41 := free_of_heap HH4.out 1
          have c70 := box0 h7; have c71 := box1 h7; have f70 := free_of_heap h7 0; have f71 := free_of_heap h7 1
          have HI7 := Lib.hid hi7
          have hlt6 : P6 + 1 < wr.heap.size := HI.out.1.lt
          clear h7 hi7
          by_cases hg0 : gk = 0
          · subst hg0
            obtain rfl : i = n := by omega
            go_wp2_with fail
            obtain ⟨F, hF, r0, r1, hr, hbf⟩ := ri_put HI7.out HH4.out
            try rw [hF]
            refine bodyPost_ret (v := .tuple #[.agg #[.slice A7 n7 c7, .bool b7], .bool true]) (by simp [results, Tryz.results24, go_sem, r0, r1]) rfl ?_
            exact ⟨_, _, _, _, _, _, rfl, hr, fun _ => rfl, (decide_eq_true HI.out.2).symm, hbf _ _ (by omega) HB.out⟩
          · obtain ⟨g, rfl⟩ : ∃ g, gk = g + 1 := ⟨gk - 1, by omega⟩
            have hlt : i < n := by omega
            have HL1 : Hid ((dg 10 (x ^ i).natAbs).length ≤ 1000000) := Nat.le_trans (len_fit HI.out.2) (by decide)
            have HL2 : Hid ((dg 10 x.natAbs).length ≤ 1000000) := Nat.le_trans (len_fit HX.out) (by decide)
            go_upto_region 13 with (go_at_call 26; (with_reducible refine (product_c _ _ (x ^ i) x _ HI7.out HRX.out HL1.out HL2.out).mono ?_); rintro e W9 ⟨u, rfl, hu, hbz⟩; obtain ⟨A8, n8, c8, b8, rfl⟩ := hu.form; have HU := Lib.hid hu; have HB9 := Lib.hid hbz; have c70 := keep_cell hbz c70; have c71 := keep_cell hbz c71; have f70 := keep_free' hbz (by assumption) f70; have f71 := keep_free' hbz (by assumption) f71; clear hu hbz)
            obtain ⟨F, hF, HP⟩ := rx_put (HI.out.1.below HB9.out) HU.out
            try rw [hF]
            clear hF c70 c71 f70 f71 c20 c21 c40 c41 f40 f41
            have e1 : x ^ i * x = x ^ (i + 1) := (Int.pow_succ ..).symm
            have hat := HP.at_
            rw [e1] at hat
            have HI2 := Lib.hid hat
            have HH2 := Lib.hid ((HP.heap w.heap.size (by omega)).trans (heap_below HH2.out HB9.out))
            have HH4 := Lib.hid ((HP.heap (w.heap.size + 1) (by omega)).trans (heap_below HH4.out HB9.out))
            have HRX := Lib.hid (HP.ri _ _ (HRX.out.below HB9.out))
            have HB := Lib.hid (HP.bel _ _ (by omega) (below_then' HB.out HB9.out))
            obtain ⟨A9, n9, c9, b9, t9, h9, hi9⟩ := hat
            have k70 := box0 h9; have k71 := box1 h9
            have HI9 := Lib.hid hi9
            clear h9 hi9 HP e1 HI
            by_cases hf : (x ^ (i + 1)).natAbs < 10 ^ 200
            · have HF : Hid (decide ((dg 10 (x ^ (i + 1)).natAbs).length ≤ 200) = true) := decide_eq_true ((fits_len _).2 hf)
              have HFF := Lib.hid hf
              clear hf
              go_wp2_with (go_at_call 31; (with_reducible refine (rfits_c _ (x ^ (i + 1)) _ HI9.out).mono ?_); rintro e W10 ⟨he, hbz⟩; rw [HF.out] at he; subst he; have HB10 := Lib.hid hbz; clear hbz)
              go_roundg g
              case measure => omega
              case rel => exact ⟨i + 1, rfl, by omega, ⟨HI2.out.below HB10.out, HFF.out⟩, heap_below HH2.out HB10.out, HRX.out.below HB10.out, heap_below HH4.out HB10.out, below_then' HB.out HB10.out⟩
            · have HF : Hid (decide ((dg 10 (x ^ (i + 1)).natAbs).length ≤ 200) = false) := decide_eq_false fun h => hf ((fits_len _).1 h)
              have HBG := Lib.hid (pow_big H2X.out (show i + 1 ≤ n by omega) hf)
              clear hf
              go_wp2_with (go_at_call 31; (with_reducible refine (rfits_c _ (x ^ (i + 1)) _ HI9.out).mono ?_); rintro e W10 ⟨he, hbz⟩; rw [HF.out] at he; subst he; have HB10 := Lib.hid hbz; have k70 := keep_cell hbz k70; have k71 := keep_cell hbz k71; have hh4 := heap_below HH4.out hbz; have HH5 := Lib.hid hh4; have z0 := box0 hh4; have z1 := box1 hh4; have y0 := free_of_heap hh4 0; have y1 := free_of_heap hh4 1; clear hbz hh4)
              obtain ⟨F, hF, r0, r1, hr, hbf⟩ := ri_put (HI9.out.below HB10.out) HH5.out
              try rw [hF]
              refine bodyPost_ret (v := .tuple #[.agg #[.slice A9 n9 c9, .bool b9], .bool false]) (by simp [results, Tryz.results24, go_sem, r0, r1]) rfl ?_
              exact ⟨_, _, _, _, _, _, rfl, hr, (fun h => absurd h (by decide)), HBG.out.symm, hbf _ _ (by omega) (below_then' HB.out HB10.out)⟩
end Go.Proofs.YtbjgpbdkofadiaaGreatDoor
