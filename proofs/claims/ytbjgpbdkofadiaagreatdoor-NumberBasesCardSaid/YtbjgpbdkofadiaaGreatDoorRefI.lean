/- The reference's Of: the walk. -/
import Derived.Test.YtbjgpbdkofadiaaGreatDoorRefH
import Derived.Deep.DrawnRows
namespace Go.Proofs.YtbjgpbdkofadiaaGreatDoor
set_option linter.unusedVariables false
set_option linter.unusedSimpArgs false
open Go.RowKit Go.Shelf
attribute [local go_sem ↓] Go.wp_at_zero Go.wp_at_succ

set_option maxRecDepth 100000 in
set_option maxHeartbeats 4000000 in
theorem rof_c (S : ByteArray) (z : Int) (w : World) (h : NumL S.data.toList z) : Calls Tryz.prog 23 #[.string S] w (RiP z w) := by
  by_cases hz : z < 0
  · skip
    obtain ⟨⟨h0, hm⟩, hl⟩ := text_neg h hz
    obtain ⟨D, hD⟩ : ∃ D, S.extract 1 S.size = D := ⟨_, rfl⟩
    rw [hD] at hl
    have hmn : ((S[0].toNat : Int) == 45) = true := by rw [hm]; rfl
    have HT := Lib.hid (decT hl h.2)
    have hs2 : D.size ≤ 200 := HT.out.le
    have HSG : Hid (decide (z < 0) = true) := by show _ = _; simp; omega
    clear hm hl h hz
    go_enter Tryz.func23, Tryz.ntmps23
    go_wp2_with fail
    go_loopg [4] D.size (fun g i wr => ∃ (v : Value), i = .int .i64 ((g : Int) - 1) ∧ g ≤ D.size ∧ Hid (wr.heap[w.heap.size]? = some (.cells #[.slice none 0 0, .bool false] 32 (0, 0))) ∧ Hid (wr.heap[w.heap.size + 1]? = some (.cells #[v, .bool true] 32 (0, 0))) ∧ Hid (wr.ownsRow (w.heap.size + 1 + 1) 3 1 v (D.size - g) ((revFrom D g).map (Value.int .i64))) ∧ Hid (Below w.heap.size w wr))
    case atStart =>
      refine ⟨.slice none 0 0, rfl, Nat.le_refl _, heap_old _ (heap_alloc_new _ _), heap_new' _ _ _ (by simp), ?_, ((Below.refl _ _).alloc (Nat.le_refl _) _).alloc (by simp) _⟩
      rw [revFrom_end, Nat.sub_self]; exact World.ownsRow_nil _ _ _ _
    case round =>
      obtain ⟨v, rfl, hg, HB0, HB1, HOW, HB⟩ := hrel
      have b0 := box0 HB1.out
      have b1 := box1 HB1.out
      have a0 : ∀ o, (wr.alloc o).cell? ⟨w.heap.size + 1, 0, none⟩ = some v := fun o => keep_cell ((Below.refl _ _).alloc (Nat.le_refl _) o) b0
      have hsz : w.heap.size + 1 < wr.heap.size := World.block_lt_of_cell? _ _ b0
      by_cases hg0 : gk = 0
      · subst hg0
        obtain ⟨hir, hvl⟩ := revFrom_zero HT.out
        obtain ⟨A, c, hve, hlc, hcm, hrow, hln⟩ := own_row HOW.out
        have hne := own_ne HOW.out (B := w.heap.size + 1) (by omega)
        have hfrom := own_from HOW.out
        generalize revFrom D 0 = l at *
        have HROW := Lib.hid hrow; have HIN := Lib.hid hir; have HVL := Lib.hid hvl; have HF := Lib.hid hfrom
        subst hve
        have hcm' : c ≤ 9223372036854775807 := by unfold maxLen at hcm; omega
        clear hir hvl hrow hfrom hln hne
        have f10 := free_of_heap HB1.out 0; have f00 := free_of_heap HB0.out 0; have f01 := free_of_heap HB0.out 1
        have c00 := box0 HB0.out; have c01 := box1 HB0.out
        go_wp2_with (go_at_call 61; refine (trim_c A c l wr HROW.out hlc hcm').mono ?_; intro e w1 hcut; obtain ⟨rfl, v, rfl, hdg, hblk⟩ := cut_dg (b := 10) (by decide) HROW.out hlc hcm' HIN.out HVL.out hcut; obtain ⟨A9, n9, c9, rfl⟩ := hdg.form; have HDG := Lib.hid hdg; have HF9 : Hid (FromB (w.heap.size + 1 + 1) (.slice A9 n9 c9)) := (fun k hk => by obtain ⟨a, ha, rfl⟩ := hblk k hk; subst ha; exact HF.out _ rfl); clear hdg hblk hcut)
        obtain ⟨F, hF, r0, r1, hd, hbf⟩ := ri_set true (set_far (a := ⟨w.heap.size + 1, 0, none⟩) (.slice A9 n9 c9) (by simp) c00) (set_far (a := ⟨w.heap.size + 1, 0, none⟩) (.slice A9 n9 c9) (by simp) c01) (HDG.out.set HF9.out (by simp) (a := ⟨w.heap.size + 1, 0, none⟩) (.slice A9 n9 c9)) (HF9.out.mono (by omega))
        rw [hF]
        refine bodyPost_ret (v := .agg #[.slice A9 n9 c9, .bool true]) (by simp [results, Tryz.results23, go_sem, r0, r1]) rfl ?_
        exact ⟨_, rfl, ⟨_, by rw [HSG.out], hd⟩, hbf _ _ (Nat.le_refl _) (HB.out.setCell (p := ⟨w.heap.size + 1, 0, none⟩) (by simp) _)⟩
      · obtain ⟨g, rfl⟩ : ∃ g, gk = g + 1 := ⟨gk - 1, by omega⟩
        rw [show (((g + 1 : Nat) : Int) - 1) = (g : Int) by omega]
        have hlt : g < D.size := by omega
        have hx0 : 48 ≤ D[g].toNat := (HT.out.dg g hlt).1
        have hx1 : D[g].toNat ≤ 57 := (HT.out.dg g hlt).2
        have hst := revFrom_step D g hlt
        have hwr1 : IntKind.u8.wrap ((D[g].toNat : Int) - 48) = (D[g].toNat : Int) - 48 := by rw [show IntKind.u8.wrap ((D[g].toNat : Int) - 48) = ((D[g].toNat : Int) - 48) % 256 from rfl]; omega
        have hwr2 : IntKind.i64.wrap ((D[g].toNat : Int) - 48) = (D[g].toNat : Int) - 48 := IntWalk.i64_in _ (by omega)
        have HST := Lib.hid hst
        have HNE := Lib.hid (own_ne HOW.out (B := w.heap.size + 1) (by omega))
        have HNE0 := Lib.hid (own_ne HOW.out (B := w.heap.size) (by omega))
        obtain ⟨i0, hi, hz0, hz1, hz2⟩ := info_parts info_int
        have HI := Lib.hid (And.intro hi (And.intro hz0 (And.intro hz1 hz2)))
        clear hst hi hz0 hz1 hz2
        go_wp2_with fail
        go_region_law ((refine step_append_lies _ (by rfl) _ _ _ (by rfl) (w.heap.size + 1 + 1) 3 i0 (.int .i64 0) 1 8 Tryz.underlying30 HI.out.1 HI.out.2.1 HI.out.2.2.1 HI.out.2.2.2 rfl (by decide) v _ _ (by rfl) ((HOW.out.alloc _).drew) ⟨wr.heap.size, 0, none⟩ 1 1 [.int .i64 ((D[g].toNat : Int) - 48)] (by rfl) (by rfl) (World.news_of_block (heap_alloc_new wr _)) (by simp [Value.oneCell']) (by omega) (by unfold maxLen; omega) (by omega) (by simp; omega) (wr.heap.size + 1) (by simp) ?_; intro gg cap w1 hown1 hgrow hat hlt1; have HO1 := Lib.hid hown1; have HG1 := Lib.hid hgrow; have hx1 := grown_put hgrow (show ((wr.alloc (.cells #[.int .i64 ((D[g].toNat : Int) - 48)] 3)).drew).heap[w.heap.size + 1]? = some _ from heap_old _ HB1.out) HNE.out; have hx0 := grown_put hgrow (show ((wr.alloc (.cells #[.int .i64 ((D[g].toNat : Int) - 48)] 3)).drew).heap[w.heap.size]? = some _ from heap_old _ HB0.out) HNE0.out; have y0 := box0 hx1; have y1 := free_of_heap hx1 0; have HX1 := Lib.hid hx1; have HX0 := Lib.hid hx0; clear hown1 hgrow hx1 hx0))
        all_goals
          go_wp2_with fail
          go_roundg g
          case measure => omega
          case rel =>
            refine ⟨.slice (some ⟨gg, 0, none⟩) (D.size - (g + 1) + 1) cap, rfl, by omega, ?_, ?_, ?_, ?_⟩
            · exact (Below.heap_setCell _ _ _ _ (by simp)).trans HX0.out
            · exact box_put HX1.out 0 _
            · have h1 := own_setCell_other HO1.out ⟨w.heap.size + 1, 0, none⟩ (.slice (some ⟨gg, 0, none⟩) (D.size - (g + 1) + 1) cap) (own_ne HO1.out (by simp))
              rw [HST.out, List.map_append, show D.size - g = D.size - (g + 1) + 1 by omega]; exact h1
            · exact (((HB.out.alloc (by omega) _).drew.grown HG1.out (by simp; omega) ((own_from HOW.out).mono (by omega))).setCell (p := ⟨w.heap.size + 1, 0, none⟩) (by simp) _)
  · skip
    obtain ⟨⟨h0, hm⟩, hl⟩ := text_pos h hz
    have hmn : ((S[0].toNat : Int) == 45) = false := u8_ne45 hm
    have HT := Lib.hid (decT hl h.2)
    have hs2 : S.size ≤ 200 := HT.out.le
    have HSG : Hid (decide (z < 0) = false) := by show _ = _; simp; omega
    clear hm hl h hz
    go_enter Tryz.func23, Tryz.ntmps23
    go_wp2_with fail
    go_loopg [4] S.size (fun g i wr => ∃ (v : Value), i = .int .i64 ((g : Int) - 1) ∧ g ≤ S.size ∧ Hid (wr.heap[w.heap.size]? = some (.cells #[.slice none 0 0, .bool false] 32 (0, 0))) ∧ Hid (wr.heap[w.heap.size + 1]? = some (.cells #[v, .bool false] 32 (0, 0))) ∧ Hid (wr.ownsRow (w.heap.size + 1 + 1) 3 1 v (S.size - g) ((revFrom S g).map (Value.int .i64))) ∧ Hid (Below w.heap.size w wr))
    case atStart =>
      refine ⟨.slice none 0 0, rfl, Nat.le_refl _, heap_old _ (heap_alloc_new _ _), heap_new' _ _ _ (by simp), ?_, ((Below.refl _ _).alloc (Nat.le_refl _) _).alloc (by simp) _⟩
      rw [revFrom_end, Nat.sub_self]; exact World.ownsRow_nil _ _ _ _
    case round =>
      obtain ⟨v, rfl, hg, HB0, HB1, HOW, HB⟩ := hrel
      have b0 := box0 HB1.out
      have b1 := box1 HB1.out
      have a0 : ∀ o, (wr.alloc o).cell? ⟨w.heap.size + 1, 0, none⟩ = some v := fun o => keep_cell ((Below.refl _ _).alloc (Nat.le_refl _) o) b0
      have hsz : w.heap.size + 1 < wr.heap.size := World.block_lt_of_cell? _ _ b0
      by_cases hg0 : gk = 0
      · subst hg0
        obtain ⟨hir, hvl⟩ := revFrom_zero HT.out
        obtain ⟨A, c, hve, hlc, hcm, hrow, hln⟩ := own_row HOW.out
        have hne := own_ne HOW.out (B := w.heap.size + 1) (by omega)
        have hfrom := own_from HOW.out
        generalize revFrom S 0 = l at *
        have HROW := Lib.hid hrow; have HIN := Lib.hid hir; have HVL := Lib.hid hvl; have HF := Lib.hid hfrom
        subst hve
        have hcm' : c ≤ 9223372036854775807 := by unfold maxLen at hcm; omega
        clear hir hvl hrow hfrom hln hne
        have f10 := free_of_heap HB1.out 0; have f00 := free_of_heap HB0.out 0; have f01 := free_of_heap HB0.out 1
        have c00 := box0 HB0.out; have c01 := box1 HB0.out
        go_wp2_with (go_at_call 61; refine (trim_c A c l wr HROW.out hlc hcm').mono ?_; intro e w1 hcut; obtain ⟨rfl, v, rfl, hdg, hblk⟩ := cut_dg (b := 10) (by decide) HROW.out hlc hcm' HIN.out HVL.out hcut; obtain ⟨A9, n9, c9, rfl⟩ := hdg.form; have HDG := Lib.hid hdg; have HF9 : Hid (FromB (w.heap.size + 1 + 1) (.slice A9 n9 c9)) := (fun k hk => by obtain ⟨a, ha, rfl⟩ := hblk k hk; subst ha; exact HF.out _ rfl); clear hdg hblk hcut)
        obtain ⟨F, hF, r0, r1, hd, hbf⟩ := ri_set false (set_far (a := ⟨w.heap.size + 1, 0, none⟩) (.slice A9 n9 c9) (by simp) c00) (set_far (a := ⟨w.heap.size + 1, 0, none⟩) (.slice A9 n9 c9) (by simp) c01) (HDG.out.set HF9.out (by simp) (a := ⟨w.heap.size + 1, 0, none⟩) (.slice A9 n9 c9)) (HF9.out.mono (by omega))
        rw [hF]
        refine bodyPost_ret (v := .agg #[.slice A9 n9 c9, .bool false]) (by simp [results, Tryz.results23, go_sem, r0, r1]) rfl ?_
        exact ⟨_, rfl, ⟨_, by rw [HSG.out], hd⟩, hbf _ _ (Nat.le_refl _) (HB.out.setCell (p := ⟨w.heap.size + 1, 0, none⟩) (by simp) _)⟩
      · obtain ⟨g, rfl⟩ : ∃ g, gk = g + 1 := ⟨gk - 1, by omega⟩
        rw [show (((g + 1 : Nat) : Int) - 1) = (g : Int) by omega]
        have hlt : g < S.size := by omega
        have hx0 : 48 ≤ S[g].toNat := (HT.out.dg g hlt).1
        have hx1 : S[g].toNat ≤ 57 := (HT.out.dg g hlt).2
        have hst := revFrom_step S g hlt
        have hwr1 : IntKind.u8.wrap ((S[g].toNat : Int) - 48) = (S[g].toNat : Int) - 48 := by rw [show IntKind.u8.wrap ((S[g].toNat : Int) - 48) = ((S[g].toNat : Int) - 48) % 256 from rfl]; omega
        have hwr2 : IntKind.i64.wrap ((S[g].toNat : Int) - 48) = (S[g].toNat : Int) - 48 := IntWalk.i64_in _ (by omega)
        have HST := Lib.hid hst
        have HNE := Lib.hid (own_ne HOW.out (B := w.heap.size + 1) (by omega))
        have HNE0 := Lib.hid (own_ne HOW.out (B := w.heap.size) (by omega))
        obtain ⟨i0, hi, hz0, hz1, hz2⟩ := info_parts info_int
        have HI := Lib.hid (And.intro hi (And.intro hz0 (And.intro hz1 hz2)))
        clear hst hi hz0 hz1 hz2
        go_wp2_with fail
        go_region_law ((refine step_append_lies _ (by rfl) _ _ _ (by rfl) (w.heap.size + 1 + 1) 3 i0 (.int .i64 0) 1 8 Tryz.underlying30 HI.out.1 HI.out.2.1 HI.out.2.2.1 HI.out.2.2.2 rfl (by decide) v _ _ (by rfl) ((HOW.out.alloc _).drew) ⟨wr.heap.size, 0, none⟩ 1 1 [.int .i64 ((S[g].toNat : Int) - 48)] (by rfl) (by rfl) (World.news_of_block (heap_alloc_new wr _)) (by simp [Value.oneCell']) (by omega) (by unfold maxLen; omega) (by omega) (by simp; omega) (wr.heap.size + 1) (by simp) ?_; intro gg cap w1 hown1 hgrow hat hlt1; have HO1 := Lib.hid hown1; have HG1 := Lib.hid hgrow; have hx1 := grown_put hgrow (show ((wr.alloc (.cells #[.int .i64 ((S[g].toNat : Int) - 48)] 3)).drew).heap[w.heap.size + 1]? = some _ from heap_old _ HB1.out) HNE.out; have hx0 := grown_put hgrow (show ((wr.alloc (.cells #[.int .i64 ((S[g].toNat : Int) - 48)] 3)).drew).heap[w.heap.size]? = some _ from heap_old _ HB0.out) HNE0.out; have y0 := box0 hx1; have y1 := free_of_heap hx1 0; have HX1 := Lib.hid hx1; have HX0 := Lib.hid hx0; clear hown1 hgrow hx1 hx0))
        all_goals
          go_wp2_with fail
          go_roundg g
          case measure => omega
          case rel =>
            refine ⟨.slice (some ⟨gg, 0, none⟩) (S.size - (g + 1) + 1) cap, rfl, by omega, ?_, ?_, ?_, ?_⟩
            · exact (Below.heap_setCell _ _ _ _ (by simp)).trans HX0.out
            · exact box_put HX1.out 0 _
            · have h1 := own_setCell_other HO1.out ⟨w.heap.size + 1, 0, none⟩ (.slice (some ⟨gg, 0, none⟩) (S.size - (g + 1) + 1) cap) (own_ne HO1.out (by simp))
              rw [HST.out, List.map_append, show S.size - g = S.size - (g + 1) + 1 by omega]; exact h1
            · exact (((HB.out.alloc (by omega) _).drew.grown HG1.out (by simp; omega) ((own_from HOW.out).mono (by omega))).setCell (p := ⟨w.heap.size + 1, 0, none⟩) (by simp) _)
end Go.Proofs.YtbjgpbdkofadiaaGreatDoor
