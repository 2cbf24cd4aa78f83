/- The reference's FromInt. -/
import Derived.Test.YtbjgpbdkofadiaaGreatDoorRefJ
namespace Go.Proofs.YtbjgpbdkofadiaaGreatDoor
set_option linter.unusedVariables false
set_option linter.unusedSimpArgs false
open Go.RowKit Go.Shelf
attribute [local go_sem] max2_int min2_int max_two min_two

theorem tmod_abs (c : Int) (d : Nat) (hd : c.natAbs % 10 = d) : (c < 0 → c.tmod 10 = -(d : Int)) ∧ (0 < c → c.tmod 10 = (d : Int)) := by
  subst hd
  rcases Int.le_total 0 c with h | h
  · obtain ⟨k, rfl⟩ := Int.eq_ofNat_of_zero_le h
    exact ⟨fun h => by omega, fun _ => by rw [Int.natAbs_natCast]; rfl⟩
  · obtain ⟨k, hk⟩ := Int.eq_ofNat_of_zero_le (show 0 ≤ -c by omega)
    obtain rfl : c = -(k : Int) := by omega
    refine ⟨fun _ => ?_, fun h => by omega⟩
    rw [Int.neg_tmod, Int.natAbs_neg, Int.natAbs_natCast]; rfl
theorem tdiv_abs (c : Int) : (c.tdiv 10).natAbs = c.natAbs / 10 ∧ (c < 0 → c.tdiv 10 ≤ 0) ∧ (0 < c → 0 ≤ c.tdiv 10) := by
  refine ⟨?_, fun h => ?_, fun h => ?_⟩
  · rw [Int.natAbs_tdiv]; rfl
  · have := Int.tdiv_nonneg (a := -c) (b := 10) (by omega) (by omega)
    rw [Int.neg_tdiv] at this; omega
  · exact Int.tdiv_nonneg (by omega) (by omega)

set_option maxRecDepth 100000 in
set_option maxHeartbeats 4000000 in
theorem rfromint_c (n : Int) (w : World) (h0 : -9223372036854775808 ≤ n) (h1 : n ≤ 9223372036854775807) :
    Calls Tryz.prog 53 #[.int .i64 n] w fun e w' => e = .returned (.string ⟨(Lib.itoa n).toArray⟩) ∧ Below w.heap.size w w' := by
  by_cases hz : n = 0
  · subst hz
    rw [itoa_zero]
    go_enter Tryz.func53, Tryz.ntmps53
    go_wp2_with fail
    go_ret
    exact ⟨rfl, Below.refl _ _⟩
  · have hnz : (n == 0) = false := by simpa using hz
    obtain ⟨sg, hsg⟩ : ∃ sg, decide (n < 0) = sg := ⟨_, rfl⟩
    obtain ⟨N, hN⟩ : ∃ N, n.natAbs = N := ⟨_, rfl⟩
    have HSG := Lib.hid hsg
    have HN := Lib.hid hN
    have HLEN : Hid ((dg 10 N).length ≤ 20) := (dg_length_le (by decide) N 20).2 (by omega)
    have HZ := Lib.hid hz
    obtain ⟨r, hr⟩ : ∃ r : ByteArray, ⟨(Lib.itoa n).toArray⟩ = r := ⟨_, rfl⟩
    rw [hr]
    have HR := Lib.hid hr
    clear hr hN hz
    go_enter Tryz.func53, Tryz.ntmps53
    go_wp2_with fail
    go_loopg [0] N (fun g cv wr => ∃ (c : Int) (v : Value) (l : List Int), cv = .int .i64 c ∧ -9223372036854775808 ≤ c ∧ c ≤ 9223372036854775807 ∧ c.natAbs = g
      ∧ Hid (wr.heap[w.heap.size]? = some (.cells #[v, .bool sg] 32 (0, 0))) ∧ Hid (wr.ownsRow (w.heap.size + 1) 3 1 v l.length (l.map (Value.int .i64))) ∧ Hid (l ++ dg 10 g = dg 10 N) ∧ Hid (Below w.heap.size w wr))
    case atStart => exact ⟨n, .slice none 0 0, [], rfl, h0, h1, HN.out, heap_alloc_new _ _, World.ownsRow_nil _ _ _ _, rfl, (Below.refl _ _).alloc (Nat.le_refl _) _⟩
    case round =>
      obtain ⟨c, v, l, rfl, hc0, hc1', hg, HBX, HOW, HL, HB⟩ := hrel
      have b0 := box0 HBX.out
      have b1 := box1 HBX.out
      have f0 := free_of_heap HBX.out 0
      have hsz : w.heap.size < wr.heap.size := World.block_lt_of_cell? _ _ b0
      have hll : l.length ≤ 20 := by have h1 := congrArg List.length HL.out; rw [List.length_append] at h1; have := HLEN.out; omega
      by_cases hg0 : c = 0
      · subst hg0
        obtain rfl : gk = 0 := by simpa using hg.symm
        have hl := HL.out
        rw [dg_zero, List.append_nil] at hl
        subst hl
        obtain ⟨A, cp, rfl, hlc, hcm, hrow, -⟩ := own_row HOW.out
        have HRI : Hid (Ri wr (.agg #[.slice A (dg 10 N).length cp, .bool sg]) n) := ⟨_, by rw [HSG.out], A, cp, by rw [HN.out], by rw [HN.out]; exact hlc, by unfold maxLen at hcm; omega, by rw [HN.out]; exact hrow⟩
        have HLN : Hid ((dg 10 n.natAbs).length ≤ 1000000) := by show _ ≤ _; rw [HN.out]; have := HLEN.out; omega
        clear hrow hlc hcm
        go_wp2_with (go_at_call 62; (with_reducible refine (rtext_c _ n wr HRI.out HLN.out).mono ?_); rintro e w2 ⟨he, hbz⟩; rw [HR.out] at he; subst he; have HB2 := Lib.hid hbz; clear hbz)
        go_ret
        exact ⟨rfl, below_then' HB.out HB2.out⟩
      · have hcz : (c != 0) = true := by simpa using hg0
        obtain ⟨d, hd⟩ : ∃ d, c.natAbs % 10 = d := ⟨_, rfl⟩
        obtain ⟨t1, t2⟩ := tmod_abs c d hd
        obtain ⟨e1, e2, e3⟩ := tdiv_abs c
        have hd9 : d < 10 := by omega
        have HDG : Hid (dg 10 gk = (d : Int) :: dg 10 (gk / 10)) := by show _ = _; rw [dg_pos (by decide) (by omega), ← hd, hg]
        have HNE := Lib.hid (own_ne HOW.out (B := w.heap.size) (by omega))
        obtain ⟨i0, hi, hz0, hz1, hz2⟩ := info_parts info_int
        have HI := Lib.hid (And.intro hi (And.intro hz0 (And.intro hz1 hz2)))
        clear hi hz0 hz1 hz2
        rcases Int.lt_or_gt_of_ne hg0 with hlt | hgt
        · have T := t1 hlt
          have E2 := e2 hlt
          clear t1 t2 e2 e3
          by_cases hd0 : d = 0
          · subst hd0
            simp only [Int.natCast_zero, Int.neg_zero] at T
            go_wp2_with (at_builtin; refine wpList_append_lies _ rfl _ _ 30 rfl (w.heap.size + 1) 3 i0 (.int .i64 0) 1 8 Tryz.underlying30 HI.out.1 HI.out.2.1 HI.out.2.2.1 HI.out.2.2.2 rfl (by decide) _ _ _ rfl (HOW.out.alloc _) ⟨wr.heap.size, 0, none⟩ 1 1 [.int .i64 0] rfl rfl (cell_one_new _ _ _) (by simp [Value.oneCell']) (by omega) (by unfold maxLen; omega) (by omega) (by simp; omega) _ rfl ?_; intro gg cap w1 hown1 hgrow1 hat hlt1; have HX := Lib.hid (grown_put hgrow1 (heap_old _ HBX.out) HNE.out); have b0 := box0 HX.out; have b1 := box1 HX.out; have f0 := free_of_heap HX.out 0; have HO1 := Lib.hid hown1; have HG1 := Lib.hid hgrow1; clear hown1 hgrow1)
            go_roundg (gk / 10)
            case measure => omega
            case rel =>
              refine ⟨c.tdiv 10, .slice (some ⟨gg, 0, none⟩) (l.length + 1) cap, l ++ [0], rfl, by omega, by omega, by omega, box_put HX.out 0 _, ?_, ?_, ?_⟩
              · have h1 := own_setCell_other HO1.out ⟨w.heap.size, 0, none⟩ (.slice (some ⟨gg, 0, none⟩) (l.length + 1) cap) (own_ne HO1.out (by simp))
                rw [List.map_append, List.length_append]; exact h1
              · rw [List.append_assoc, List.singleton_append, ← HL.out, HDG.out]; rfl
              · exact ((HB.out.alloc (by omega) _).grown HG1.out (by simp; omega) ((own_from HOW.out).mono (by omega))).setCell (p := ⟨w.heap.size, 0, none⟩) (Nat.le_refl _) _
          · have hd1 : -(d : Int) < (d : Int) := by omega
            go_wp2_with (at_builtin; refine wpList_append_lies _ rfl _ _ 30 rfl (w.heap.size + 1) 3 i0 (.int .i64 0) 1 8 Tryz.underlying30 HI.out.1 HI.out.2.1 HI.out.2.2.1 HI.out.2.2.2 rfl (by decide) _ _ _ rfl (HOW.out.alloc _) ⟨wr.heap.size, 0, none⟩ 1 1 [.int .i64 (d : Int)] rfl rfl (cell_one_new _ _ _) (by simp [Value.oneCell']) (by omega) (by unfold maxLen; omega) (by omega) (by simp; omega) _ rfl ?_; intro gg cap w1 hown1 hgrow1 hat hlt1; have HX := Lib.hid (grown_put hgrow1 (heap_old _ HBX.out) HNE.out); have b0 := box0 HX.out; have b1 := box1 HX.out; have f0 := free_of_heap HX.out 0; have HO1 := Lib.hid hown1; have HG1 := Lib.hid hgrow1; clear hown1 hgrow1)
            go_roundg (gk / 10)
            case measure => omega
            case rel =>
              refine ⟨c.tdiv 10, .slice (some ⟨gg, 0, none⟩) (l.length + 1) cap, l ++ [(d : Int)], rfl, by omega, by omega, by omega, box_put HX.out 0 _, ?_, ?_, ?_⟩
              · have h1 := own_setCell_other HO1.out ⟨w.heap.size, 0, none⟩ (.slice (some ⟨gg, 0, none⟩) (l.length + 1) cap) (own_ne HO1.out (by simp))
                rw [List.map_append, List.length_append]; exact h1
              · rw [List.append_assoc, List.singleton_append, ← HL.out, HDG.out]; rfl
              · exact ((HB.out.alloc (by omega) _).grown HG1.out (by simp; omega) ((own_from HOW.out).mono (by omega))).setCell (p := ⟨w.heap.size, 0, none⟩) (Nat.le_refl _) _
        · have T := t2 hgt
          have E3 := e3 hgt
          have T2 : c % 10 = (d : Int) := by omega
          have T3 : (c / 10).natAbs = gk / 10 := by omega
          clear t1 t2 e2 e3
          by_cases hd0 : d = 0
          · subst hd0
            simp only [Int.natCast_zero] at T T2
            go_wp2_with (at_builtin; refine wpList_append_lies _ rfl _ _ 30 rfl (w.heap.size + 1) 3 i0 (.int .i64 0) 1 8 Tryz.underlying30 HI.out.1 HI.out.2.1 HI.out.2.2.1 HI.out.2.2.2 rfl (by decide) _ _ _ rfl (HOW.out.alloc _) ⟨wr.heap.size, 0, none⟩ 1 1 [.int .i64 0] rfl rfl (cell_one_new _ _ _) (by simp [Value.oneCell']) (by omega) (by unfold maxLen; omega) (by omega) (by simp; omega) _ rfl ?_; intro gg cap w1 hown1 hgrow1 hat hlt1; have HX := Lib.hid (grown_put hgrow1 (heap_old _ HBX.out) HNE.out); have b0 := box0 HX.out; have b1 := box1 HX.out; have f0 := free_of_heap HX.out 0; have HO1 := Lib.hid hown1; have HG1 := Lib.hid hgrow1; clear hown1 hgrow1)
            go_roundg (gk / 10)
            case measure => omega
            case rel =>
              refine ⟨c.tdiv 10, .slice (some ⟨gg, 0, none⟩) (l.length + 1) cap, l ++ [0], rfl, by omega, by omega, by omega, box_put HX.out 0 _, ?_, ?_, ?_⟩
              · have h1 := own_setCell_other HO1.out ⟨w.heap.size, 0, none⟩ (.slice (some ⟨gg, 0, none⟩) (l.length + 1) cap) (own_ne HO1.out (by simp))
                rw [List.map_append, List.length_append]; exact h1
              · rw [List.append_assoc, List.singleton_append, ← HL.out, HDG.out]; rfl
              · exact ((HB.out.alloc (by omega) _).grown HG1.out (by simp; omega) ((own_from HOW.out).mono (by omega))).setCell (p := ⟨w.heap.size, 0, none⟩) (Nat.le_refl _) _
          · have hd1 : ¬ (d : Int) < -(d : Int) := by omega
            go_wp2_with (at_builtin; refine wpList_append_lies _ rfl _ _ 30 rfl (w.heap.size + 1) 3 i0 (.int .i64 0) 1 8 Tryz.underlying30 HI.out.1 HI.out.2.1 HI.out.2.2.1 HI.out.2.2.2 rfl (by decide) _ _ _ rfl (HOW.out.alloc _) ⟨wr.heap.size, 0, none⟩ 1 1 [.int .i64 (d : Int)] rfl rfl (cell_one_new _ _ _) (by simp [Value.oneCell']) (by omega) (by unfold maxLen; omega) (by omega) (by simp; omega) _ rfl ?_; intro gg cap w1 hown1 hgrow1 hat hlt1; have HX := Lib.hid (grown_put hgrow1 (heap_old _ HBX.out) HNE.out); have b0 := box0 HX.out; have b1 := box1 HX.out; have f0 := free_of_heap HX.out 0; have HO1 := Lib.hid hown1; have HG1 := Lib.hid hgrow1; clear hown1 hgrow1)
            go_roundg (gk / 10)
            case measure => omega
            case rel =>
              refine ⟨c.tdiv 10, .slice (some ⟨gg, 0, none⟩) (l.length + 1) cap, l ++ [(d : Int)], rfl, by omega, by omega, by omega, box_put HX.out 0 _, ?_, ?_, ?_⟩
              · have h1 := own_setCell_other HO1.out ⟨w.heap.size, 0, none⟩ (.slice (some ⟨gg, 0, none⟩) (l.length + 1) cap) (own_ne HO1.out (by simp))
                rw [List.map_append, List.length_append]; exact h1
              · rw [List.append_assoc, List.singleton_append, ← HL.out, HDG.out]; rfl
              · exact ((HB.out.alloc (by omega) _).grown HG1.out (by simp; omega) ((own_from HOW.out).mono (by omega))).setCell (p := ⟨w.heap.size, 0, none⟩) (Nat.le_refl _) _
end Go.Proofs.YtbjgpbdkofadiaaGreatDoor
