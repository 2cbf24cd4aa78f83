/- Texts of this claim, merged: R6, SpB. -/
import Derived.Test.YtekbfommnmikbaaGreatDoorQ6
import Derived.Deep.DrawnRows
/- The reference of layer 1: texts, division, roots. -/
namespace Go.Proofs.YtekbfommnmikbaaGreatDoor
set_option linter.unusedVariables false
set_option linter.unusedSimpArgs false
open Go.RowKit Go.Shelf
attribute [local go_sem ↓] Go.wp_at_zero Go.wp_at_succ

set_option maxRecDepth 100000 in
set_option maxHeartbeats 4000000 in
theorem rof_c (S : ByteArray) (z : Int) (w : World) (h : NumL S.data.toList z) : Calls Tryz.prog 93 #[.string S] w (RiP z w) := by
  by_cases hz : z < 0
  · skip
    obtain ⟨⟨h0, hm⟩, hl⟩ := text_neg h hz
    obtain ⟨D, hD⟩ : ∃ D, S.extract 1 S.size = D := ⟨_, rfl⟩
    rw [hD] at hl
    have hmn : ((S[0].toNat : Int) == 45) = true := by rw [hm]; rfl
    have HT := Lib.hid (decT hl h.2)
    have hs2 : D.size ≤ 200 := HT.out.le
    have HSG : Hid (decide (z < 0) = true) := by show _ = _; simp; omega
    clear hm hl h hz
    go_enter Tryz.func93, Tryz.ntmps93
    go_wp2_with fail
    go_loopg [4] D.size (fun g i wr => ∃ (v : Value), i = .int .i64 ((g : Int) - 1) ∧ g ≤ D.size ∧ Hid (wr.heap[w.heap.size]? = some (.cells #[.slice none 0 0, .bool false] 58 (0, 0))) ∧ Hid (wr.heap[w.heap.size + 1]? = some (.cells #[v, .bool true] 58 (0, 0))) ∧ Hid (wr.ownsRow (w.heap.size + 1 + 1) 3 1 v (D.size - g) ((revFrom D g).map (Value.int .i64))) ∧ Hid (Below w.heap.size w wr))
    case atStart =>
      refine ⟨.slice none 0 0, rfl, Nat.le_refl _, heap_old _ (heap_alloc_new _ _), heap_new' _ _ _ (by simp), ?_, ((Below.refl _ _).alloc (Nat.le_refl _) _).alloc (by simp) _⟩
      rw [revFrom_end, Nat.sub_self]; exact World.ownsRow_nil _ _ _ _
    case round =>
      obtain ⟨v, rfl, hg, HB0, HB1, HOW, HB⟩ := hrel
      have b0 := box0 HB1.out
      have b1 := box1 HB1.out
      have a0 : ∀ o, (wr.alloc o).cell? ⟨w.heap.size + 1, 0, none⟩ = some v := fun o => keep_cell ((Below.refl _ _).alloc (Nat.le_refl _) o) b0
      have hsz : w.heap.size + 1 < wr.heap.size := World.block_lt_of_cell? _ _ b0
      by_cases hg0 : gk = 0
      · subst hg0
        obtain ⟨hir, hvl⟩ := revFrom_zero HT.out
        obtain ⟨A, c, hve, hlc, hcm, hrow, hln⟩ := own_row HOW.out
        have hne := own_ne HOW.out (B := w.heap.size + 1) (by omega)
        have hfrom := own_from HOW.out
        generalize revFrom D 0 = l at *
        have HROW := Lib.hid hrow; have HIN := Lib.hid hir; have HVL := Lib.hid hvl; have HF := Lib.hid hfrom
        subst hve
        have hcm' : c ≤ 9223372036854775807 := by unfold maxLen at hcm; omega
        clear hir hvl hrow hfrom hln hne
        have f10 := free_of_heap HB1.out 0; have f00 := free_of_heap HB0.out 0; have f01 := free_of_heap HB0.out 1
        have c00 := box0 HB0.out; have c01 := box1 HB0.out
        go_wp2_with (go_at_call 160; refine (trim_c A c l wr HROW.out hlc hcm').mono ?_; intro e w1 hcut; obtain ⟨rfl, v, rfl, hdg, hblk⟩ := cut_dg (b := 10) (by decide) HROW.out hlc hcm' HIN.out HVL.out hcut; obtain ⟨A9, n9, c9, rfl⟩ := hdg.form; have HDG := Lib.hid hdg; have HF9 : Hid (FromB (w.heap.size + 1 + 1) (.slice A9 n9 c9)) := (fun k hk => by obtain ⟨a, ha, rfl⟩ := hblk k hk; subst ha; exact HF.out _ rfl); clear hdg hblk hcut)
        obtain ⟨F, hF, r0, r1, hd, hbf⟩ := ri_set true (set_far (a := ⟨w.heap.size + 1, 0, none⟩) (.slice A9 n9 c9) (by simp) c00) (set_far (a := ⟨w.heap.size + 1, 0, none⟩) (.slice A9 n9 c9) (by simp) c01) (HDG.out.set HF9.out (by simp) (a := ⟨w.heap.size + 1, 0, none⟩) (.slice A9 n9 c9)) (HF9.out.mono (by omega))
        rw [hF]
        refine bodyPost_ret (v := .agg #[.slice A9 n9 c9, .bool true]) (by simp [results, Tryz.results93, go_sem, r0, r1]) rfl ?_
        exact ⟨_, rfl, ⟨_, by rw [HSG.out], hd⟩, hbf _ _ (Nat.le_refl _) (HB.out.setCell (p := ⟨w.heap.size + 1, 0, none⟩) (by simp) _)⟩
      · obtain ⟨g, rfl⟩ : ∃ g, gk = g + 1 := ⟨gk - 1, by omega⟩
        rw [show (((g + 1 : Nat) : Int) - 1) = (g : Int) by omega]
        have hlt : g < D.size := by omega
        have hx0 : 48 ≤ D[g].toNat := (HT.out.dg g hlt).1
        have hx1 : D[g].toNat ≤ 57 := (HT.out.dg g hlt).2
        have hst := revFrom_step D g hlt
        have hwr1 : IntKind.u8.wrap ((D[g].toNat : Int) - 48) = (D[g].toNat : Int) - 48 := by rw [show IntKind.u8.wrap ((D[g].toNat : Int) - 48) = ((D[g].toNat : Int) - 48) % 256 from rfl]; omega
        have hwr2 : IntKind.i64.wrap ((D[g].toNat : Int) - 48) = (D[g].toNat : Int) - 48 := IntWalk.i64_in _ (by omega)
        have HST := Lib.hid hst
        have HNE := Lib.hid (own_ne HOW.out (B := w.heap.size + 1) (by omega))
        have HNE0 := Lib.hid (own_ne HOW.out (B := w.heap.size) (by omega))
        obtain ⟨i0, hi, hz0, hz1, hz2⟩ := info_parts info_int
        have HI := Lib.hid (And.intro hi (And.intro hz0 (And.intro hz1 hz2)))
        clear hst hi hz0 hz1 hz2
        go_wp2_with fail
        go_region_law ((refine step_append_lies _ (by rfl) _ _ _ (by rfl) (w.heap.size + 1 + 1) 3 i0 (.int .i64 0) 1 8 Tryz.underlying56 HI.out.1 HI.out.2.1 HI.out.2.2.1 HI.out.2.2.2 rfl (by decide) v _ _ (by rfl) ((HOW.out.alloc _).drew) ⟨wr.heap.size, 0, none⟩ 1 1 [.int .i64 ((D[g].toNat : Int) - 48)] (by rfl) (by rfl) (World.news_of_block (heap_alloc_new wr _)) (by simp [Value.oneCell']) (by omega) (by unfold maxLen; omega) (by omega) (by simp; omega) (wr.heap.size + 1) (by simp) ?_; intro gg cap w1 hown1 hgrow hat hlt1; have HO1 := Lib.hid hown1; have HG1 := Lib.hid hgrow; have hx1 := grown_put hgrow (show ((wr.alloc (.cells #[.int .i64 ((D[g].toNat : Int) - 48)] 3)).drew).heap[w.heap.size + 1]? = some _ from heap_old _ HB1.out) HNE.out; have hx0 := grown_put hgrow (show ((wr.alloc (.cells #[.int .i64 ((D[g].toNat : Int) - 48)] 3)).drew).heap[w.heap.size]? = some _ from heap_old _ HB0.out) HNE0.out; have y0 := box0 hx1; have y1 := free_of_heap hx1 0; have HX1 := Lib.hid hx1; have HX0 := Lib.hid hx0; clear hown1 hgrow hx1 hx0))
        all_goals
          go_wp2_with fail
          go_roundg g
          case measure => omega
          case rel =>
            refine ⟨.slice (some ⟨gg, 0, none⟩) (D.size - (g + 1) + 1) cap, rfl, by omega, ?_, ?_, ?_, ?_⟩
            · exact (Below.heap_setCell _ _ _ _ (by simp)).trans HX0.out
            · exact box_put HX1.out 0 _
            · have h1 := own_setCell_other HO1.out ⟨w.heap.size + 1, 0, none⟩ (.slice (some ⟨gg, 0, none⟩) (D.size - (g + 1) + 1) cap) (own_ne HO1.out (by simp))
              rw [HST.out, List.map_append, show D.size - g = D.size - (g + 1) + 1 by omega]; exact h1
            · exact (((HB.out.alloc (by omega) _).drew.grown HG1.out (by simp; omega) ((own_from HOW.out).mono (by omega))).setCell (p := ⟨w.heap.size + 1, 0, none⟩) (by simp) _)
  · skip
    obtain ⟨⟨h0, hm⟩, hl⟩ := text_pos h hz
    have hmn : ((S[0].toNat : Int) == 45) = false := u8_ne45 hm
    have HT := Lib.hid (decT hl h.2)
    have hs2 : S.size ≤ 200 := HT.out.le
    have HSG : Hid (decide (z < 0) = false) := by show _ = _; simp; omega
    clear hm hl h hz
    go_enter Tryz.func93, Tryz.ntmps93
    go_wp2_with fail
    go_loopg [4] S.size (fun g i wr => ∃ (v : Value), i = .int .i64 ((g : Int) - 1) ∧ g ≤ S.size ∧ Hid (wr.heap[w.heap.size]? = some (.cells #[.slice none 0 0, .bool false] 58 (0, 0))) ∧ Hid (wr.heap[w.heap.size + 1]? = some (.cells #[v, .bool false] 58 (0, 0))) ∧ Hid (wr.ownsRow (w.heap.size + 1 + 1) 3 1 v (S.size - g) ((revFrom S g).map (Value.int .i64))) ∧ Hid (Below w.heap.size w wr))
    case atStart =>
      refine ⟨.slice none 0 0, rfl, Nat.le_refl _, heap_old _ (heap_alloc_new _ _), heap_new' _ _ _ (by simp), ?_, ((Below.refl _ _).alloc (Nat.le_refl _) _).alloc (by simp) _⟩
      rw [revFrom_end, Nat.sub_self]; exact World.ownsRow_nil _ _ _ _
    case round =>
      obtain ⟨v, rfl, hg, HB0, HB1, HOW, HB⟩ := hrel
      have b0 := box0 HB1.out
      have b1 := box1 HB1.out
      have a0 : ∀ o, (wr.alloc o).cell? ⟨w.heap.size + 1, 0, none⟩ = some v := fun o => keep_cell ((Below.refl _ _).alloc (Nat.le_refl _) o) b0
      have hsz : w.heap.size + 1 < wr.heap.size := World.block_lt_of_cell? _ _ b0
      by_cases hg0 : gk = 0
      · subst hg0
        obtain ⟨hir, hvl⟩ := revFrom_zero HT.out
        obtain ⟨A, c, hve, hlc, hcm, hrow, hln⟩ := own_row HOW.out
        have hne := own_ne HOW.out (B := w.heap.size + 1) (by omega)
        have hfrom := own_from HOW.out
        generalize revFrom S 0 = l at *
        have HROW := Lib.hid hrow; have HIN := Lib.hid hir; have HVL := Lib.hid hvl; have HF := Lib.hid hfrom
        subst hve
        have hcm' : c ≤ 9223372036854775807 := by unfold maxLen at hcm; omega
        clear hir hvl hrow hfrom hln hne
        have f10 := free_of_heap HB1.out 0; have f00 := free_of_heap HB0.out 0; have f01 := free_of_heap HB0.out 1
        have c00 := box0 HB0.out; have c01 := box1 HB0.out
        go_wp2_with (go_at_call 160; refine (trim_c A c l wr HROW.out hlc hcm').mono ?_; intro e w1 hcut; obtain ⟨rfl, v, rfl, hdg, hblk⟩ := cut_dg (b := 10) (by decide) HROW.out hlc hcm' HIN.out HVL.out hcut; obtain ⟨A9, n9, c9, rfl⟩ := hdg.form; have HDG := Lib.hid hdg; have HF9 : Hid (FromB (w.heap.size + 1 + 1) (.slice A9 n9 c9)) := (fun k hk => by obtain ⟨a, ha, rfl⟩ := hblk k hk; subst ha; exact HF.out _ rfl); clear hdg hblk hcut)
        obtain ⟨F, hF, r0, r1, hd, hbf⟩ := ri_set false (set_far (a := ⟨w.heap.size + 1, 0, none⟩) (.slice A9 n9 c9) (by simp) c00) (set_far (a := ⟨w.heap.size + 1, 0, none⟩) (.slice A9 n9 c9) (by simp) c01) (HDG.out.set HF9.out (by simp) (a := ⟨w.heap.size + 1, 0, none⟩) (.slice A9 n9 c9)) (HF9.out.mono (by omega))
        rw [hF]
        refine bodyPost_ret (v := .agg #[.slice A9 n9 c9, .bool false]) (by simp [results, Tryz.results93, go_sem, r0, r1]) rfl ?_
        exact ⟨_, rfl, ⟨_, by rw [HSG.out], hd⟩, hbf _ _ (Nat.le_refl _) (HB.out.setCell (p := ⟨w.heap.size + 1, 0, none⟩) (by simp) _)⟩
      · obtain ⟨g, rfl⟩ : ∃ g, gk = g + 1 := ⟨gk - 1, by omega⟩
        rw [show (((g + 1 : Nat) : Int) - 1) = (g : Int) by omega]
        have hlt : g < S.size := by omega
        have hx0 : 48 ≤ S[g].toNat := (HT.out.dg g hlt).1
        have hx1 : S[g].toNat ≤ 57 := (HT.out.dg g hlt).2
        have hst := revFrom_step S g hlt
        have hwr1 : IntKind.u8.wrap ((S[g].toNat : Int) - 48) = (S[g].toNat : Int) - 48 := by rw [show IntKind.u8.wrap ((S[g].toNat : Int) - 48) = ((S[g].toNat : Int) - 48) % 256 from rfl]; omega
        have hwr2 : IntKind.i64.wrap ((S[g].toNat : Int) - 48) = (S[g].toNat : Int) - 48 := IntWalk.i64_in _ (by omega)
        have HST := Lib.hid hst
        have HNE := Lib.hid (own_ne HOW.out (B := w.heap.size + 1) (by omega))
        have HNE0 := Lib.hid (own_ne HOW.out (B := w.heap.size) (by omega))
        obtain ⟨i0, hi, hz0, hz1, hz2⟩ := info_parts info_int
        have HI := Lib.hid (And.intro hi (And.intro hz0 (And.intro hz1 hz2)))
        clear hst hi hz0 hz1 hz2
        go_wp2_with fail
        go_region_law ((refine step_append_lies _ (by rfl) _ _ _ (by rfl) (w.heap.size + 1 + 1) 3 i0 (.int .i64 0) 1 8 Tryz.underlying56 HI.out.1 HI.out.2.1 HI.out.2.2.1 HI.out.2.2.2 rfl (by decide) v _ _ (by rfl) ((HOW.out.alloc _).drew) ⟨wr.heap.size, 0, none⟩ 1 1 [.int .i64 ((S[g].toNat : Int) - 48)] (by rfl) (by rfl) (World.news_of_block (heap_alloc_new wr _)) (by simp [Value.oneCell']) (by omega) (by unfold maxLen; omega) (by omega) (by simp; omega) (wr.heap.size + 1) (by simp) ?_; intro gg cap w1 hown1 hgrow hat hlt1; have HO1 := Lib.hid hown1; have HG1 := Lib.hid hgrow; have hx1 := grown_put hgrow (show ((wr.alloc (.cells #[.int .i64 ((S[g].toNat : Int) - 48)] 3)).drew).heap[w.heap.size + 1]? = some _ from heap_old _ HB1.out) HNE.out; have hx0 := grown_put hgrow (show ((wr.alloc (.cells #[.int .i64 ((S[g].toNat : Int) - 48)] 3)).drew).heap[w.heap.size]? = some _ from heap_old _ HB0.out) HNE0.out; have y0 := box0 hx1; have y1 := free_of_heap hx1 0; have HX1 := Lib.hid hx1; have HX0 := Lib.hid hx0; clear hown1 hgrow hx1 hx0))
        all_goals
          go_wp2_with fail
          go_roundg g
          case measure => omega
          case rel =>
            refine ⟨.slice (some ⟨gg, 0, none⟩) (S.size - (g + 1) + 1) cap, rfl, by omega, ?_, ?_, ?_, ?_⟩
            · exact (Below.heap_setCell _ _ _ _ (by simp)).trans HX0.out
            · exact box_put HX1.out 0 _
            · have h1 := own_setCell_other HO1.out ⟨w.heap.size + 1, 0, none⟩ (.slice (some ⟨gg, 0, none⟩) (S.size - (g + 1) + 1) cap) (own_ne HO1.out (by simp))
              rw [HST.out, List.map_append, show S.size - g = S.size - (g + 1) + 1 by omega]; exact h1
            · exact (((HB.out.alloc (by omega) _).drew.grown HG1.out (by simp; omega) ((own_from HOW.out).mono (by omega))).setCell (p := ⟨w.heap.size + 1, 0, none⟩) (by simp) _)
end Go.Proofs.YtekbfommnmikbaaGreatDoor

namespace Go.Proofs.YtekbfommnmikbaaGreatDoor
set_option linter.unusedVariables false
set_option linter.unusedSimpArgs false
open Go.RowKit Go.Shelf

theorem itoa_zero : Lib.itoa 0 = [48] := by
  unfold Lib.itoa
  rw [if_neg (by omega)]
  exact decDigits_zero

/-- The text of the digits from place g on. -/
def topd (n g : Nat) : List UInt8 := (((dg 10 n).drop g).map fun d => UInt8.ofNat (48 + d.toNat)).reverse
theorem topd_end (n : Nat) : topd n (dg 10 n).length = [] := by simp [topd]
theorem topd_step (n g : Nat) (h : g < (dg 10 n).length) : topd n g = topd n (g + 1) ++ [UInt8.ofNat (48 + ((dg 10 n)[g]?.getD 0).toNat)] := by
  unfold topd
  rw [List.drop_eq_getElem_cons h, List.map_cons, List.reverse_cons, List.getElem?_eq_getElem h]
  rfl
theorem topd_cons (n : Nat) (hn : 0 < n) : topd n 0 = topd (n / 10) 0 ++ [UInt8.ofNat (48 + n % 10)] := by
  unfold topd
  rw [dg_pos (by decide) hn]
  have : (((n % 10 : Nat) : Int)).toNat = n % 10 := by omega
  simp only [List.drop_zero, List.map_cons, List.reverse_cons, this]
theorem topd_zero : ∀ n, 0 < n → topd n 0 = Lib.decDigits n := by
  intro n
  induction n using Nat.strongRecOn with
  | _ n ih =>
    intro hn
    rw [topd_cons n hn]
    by_cases h : n < 10
    · rw [Lib.decDigits_one h, show n / 10 = 0 by omega, show n % 10 = n by omega]
      simp [topd, dg_zero]
    · rw [ih (n / 10) (by omega) (by omega)]
      conv => rhs; rw [Lib.decDigits, dif_neg h]
theorem topd_len (n g : Nat) : (topd n g).length = (dg 10 n).length - g := by simp [topd]
/-- Bytes as they lie in memory. -/
def byz (l : List UInt8) : List Int := l.map fun b => (b.toNat : Int)
theorem byz_app (l m : List UInt8) : byz (l ++ m) = byz l ++ byz m := by simp [byz]
theorem dig_byte {d : Int} (h0 : 0 ≤ d) (h1 : d < 10) : byz [UInt8.ofNat (48 + d.toNat)] = [48 + d] := by
  simp [byz]; omega
/-- Bytes that the call has made, as a string. -/
theorem own_string {w : World} {base n : Nat} {v : Value} {l : List UInt8} (h : w.ownsRow base 5 1 v n ((byz l).map (Value.int .u8))) (hl : 0 < l.length) :
    (convert 93 9 v).run Tryz.prog w = .ok (.string ⟨l.toArray⟩) w := by
  obtain ⟨A, c, rfl, hc, hm, hr, hn⟩ := own_row h
  obtain ⟨a, rfl, -⟩ := hr 0 (by simpa [byz] using hl)
  have e : (byz l).length = l.length := by simp [byz]
  rw [e]
  refine run_convert_bytes_back w _ _ 5 a c l Tryz.underlying93 Tryz.underlying5 Tryz.underlying9 fun j hj => ?_
  obtain ⟨a', e', h2⟩ := hr j (by rw [e]; exact hj)
  cases e'
  rw [h2]
  simp [byz, List.getElem?_eq_getElem hj]

theorem itoa_head (z : Int) (h : z ≠ 0) : Lib.itoa z = (if z < 0 then [45] else []) ++ topd z.natAbs 0 := by
  rw [topd_zero _ (by omega)]
  unfold Lib.itoa
  split
  · rfl
  · rw [show z.toNat = z.natAbs by omega]; rfl

set_option maxRecDepth 100000 in
set_option maxHeartbeats 4000000 in
theorem rtext_c (v : Value) (z : Int) (w : World) (h : Ri w v z) (hm : (dg 10 z.natAbs).length ≤ 1000000) :
    Calls Tryz.prog 138 #[v] w fun e w' => e = .returned (.string ⟨(Lib.itoa z).toArray⟩) ∧ Below w.heap.size w w' := by
  obtain ⟨p, rfl, hp⟩ := h
  obtain ⟨A, c, rfl, hc, _, hr⟩ := hp
  by_cases hz : z = 0
  · subst hz
    have hn : (dg 10 (0 : Int).natAbs).length = 0 := by rw [Int.natAbs_zero, dg_zero]; rfl
    rw [hn, itoa_zero]
    clear hr hc hn
    go_enter Tryz.func138, Tryz.ntmps138
    go_wp2_with fail
    go_ret
    exact ⟨rfl, (Below.refl _ _).alloc (Nat.le_refl _) _⟩
  · obtain ⟨N, hN⟩ : ∃ N, z.natAbs = N := ⟨_, rfl⟩
    rw [hN] at hr hm hc ⊢
    have hn0 : 0 < (dg 10 N).length := List.length_pos_iff.2 fun e => by have := (dg_eq_nil (by decide)).1 e; omega
    have HIN := Lib.hid (dg_inR (b := 10) (by decide) N)
    have HTX := Lib.hid (itoa_head z hz)
    obtain ⟨i0, hi, hz0, hz1, hz2⟩ := info_parts info_byte
    have HI := Lib.hid (And.intro hi (And.intro hz0 (And.intro hz1 hz2)))
    clear hi hz0 hz1 hz2
    have hneq : (((dg 10 N).length : Int) == 0) = false := by rw [beq_eq_false_iff_ne]; omega
    obtain ⟨pre, hpre⟩ : ∃ pre : List UInt8, (if z < 0 then [45] else []) = pre := ⟨_, rfl⟩
    rw [hpre, hN] at HTX
    rw [HTX.out]
    obtain ⟨r, hr9⟩ : ∃ r : ByteArray, ⟨(pre ++ topd N 0).toArray⟩ = r := ⟨_, rfl⟩
    rw [hr9]
    have HRB := Lib.hid hr9
    clear hr9
    have hsize := fun g => topd_len N g
    have HSZ := Lib.hid hsize
    clear hsize
    obtain ⟨L, hL⟩ : ∃ L, (dg 10 N).length = L := ⟨_, rfl⟩
    obtain ⟨sg, hsg⟩ : ∃ sg, decide (z < 0) = sg := ⟨_, rfl⟩
    have HL := Lib.hid hL
    rw [hL] at hm hn0 hneq hc ⊢
    rw [hsg]
    have HTE := Lib.hid (topd_end N)
    rw [hL] at HTE
    clear hL
    have HPRE : Hid (pre = if sg then [45] else []) := by
      show _ = _
      rw [← hpre, ← hsg]
      by_cases h : z < 0 <;> simp [h]
    clear hpre hsg hN hz
    obtain ⟨W, hW, c0, f0, hbel, hs1⟩ := boxes1 w #[.slice A L c, .bool sg] 58
    have c00 := c0 0; have c01 := c0 1
    simp at c00 c01
    have hs2 : w.heap.size + 1 ≤ W.heap.size := by omega
    clear hs1
    have HB0 := Lib.hid hbel.to
    have HR := Lib.hid (hr.below hbel.to)
    clear c0 f0 hbel hr
    have C00 := Lib.hid c00; have C01 := Lib.hid c01
    cases sg
    · obtain rfl : pre = [] := HPRE.out
      clear HPRE
      go_enter Tryz.func138, Tryz.ntmps138
      go_wp2_with fail
      go_loopg [3, 4] L (fun g v i wr => i = .int .i64 ((g : Int) - 1) ∧ g ≤ L ∧ Hid (wr.ownsRow W.heap.size 5 1 v ((L - g)) ((byz (topd N g)).map (Value.int .u8))) ∧ Hid (Below W.heap.size W wr))
      case atStart => exact ⟨rfl, Nat.le_refl _, by rw [HTE.out, Nat.sub_self]; exact World.ownsRow_nil _ _ _ _, Below.refl _ _⟩
      case round =>
        obtain ⟨rfl, hg, HOW, HB⟩ := hrel
        have c00 := keep_cell HB.out C00.out
        have c01 := keep_cell HB.out C01.out
        by_cases hg0 : gk = 0
        · subst hg0
          have hcv := own_string HOW.out (by rw [topd_len]; have := HL.out; omega)
          have HRB2 := HRB.out
          rw [List.nil_append] at HRB2
          rw [HRB2] at hcv
          clear HRB2 HOW
          go_wp2_with fail
          go_ret
          exact ⟨rfl, below_then' HB0.out HB.out⟩
        · obtain ⟨g, rfl⟩ : ∃ g, gk = g + 1 := ⟨gk - 1, by omega⟩
          rw [show (((g + 1 : Nat) : Int) - 1) = (g : Int) by omega]
          have hlt : g < L := by omega
          obtain ⟨a1, rfl, hcell⟩ := (HR.out.below HB.out) g (by rw [HL.out]; exact hlt)
          have hst := topd_step N g (by rw [HL.out]; exact hlt)
          obtain ⟨d0, d1⟩ := HIN.out.at_ (by decide) g
          rw [List.getD_eq_getElem?_getD] at d0 d1
          obtain ⟨d, hd⟩ : ∃ d, (dg 10 N)[g]?.getD 0 = d := ⟨_, rfl⟩
          rw [hd] at hcell hst d0 d1
          have hd1 : d < 10 := d1
          have HST := Lib.hid hst
          have HDB := Lib.hid (dig_byte d0 hd1)
          have hwr : IntKind.u8.wrap (48 + d) = 48 + d := by rw [show IntKind.u8.wrap (48 + d) = (48 + d) % 256 from rfl]; omega
          have j0 : (0 : Int) ≤ (g : Int) := by omega
          have j1 : (g : Int) < (L : Int) := by omega
          have hsz := HB.out.size
          clear hst hd d1
          go_wp2_with (at_builtin; refine wpList_append_own _ rfl _ _ 93 rfl W.heap.size 5 i0 (.int .u8 0) 1 1 Tryz.underlying93 HI.out.1 HI.out.2.1 HI.out.2.2.1 HI.out.2.2.2 rfl (by decide) _ _ _ rfl (HOW.out.alloc _) ⟨wr.heap.size, 0, none⟩ 1 1 [.int .u8 (48 + d)] rfl rfl (cell_one_new _ _ _) (by simp [Value.oneCell']) (by unfold maxLen; omega) (by omega) (by simp; omega) ?_; intro v' w1 hown1 hgrow1 _; have HO1 := Lib.hid hown1; have HG1 := Lib.hid hgrow1; clear hown1 hgrow1)
          go_roundg g
          case measure => omega
          case rel =>
            refine ⟨rfl, by omega, ?_, ?_⟩
            · have h1 := HO1.out
              rw [HST.out, byz_app, List.map_append, HDB.out, show L - g = L - (g + 1) + 1 by omega]
              exact h1
            · exact (HB.out.alloc hsz _).grown HG1.out (by simp; omega) ((own_from HOW.out).mono (by omega))
    · obtain rfl : pre = [45] := HPRE.out
      clear HPRE
      have HN0 := Lib.hid (World.ownsRow_nil W W.heap.size 5 1)
      go_enter Tryz.func138, Tryz.ntmps138
      go_upto_region 5 with fail
      try rw [hW]
      go_wp2_with (at_builtin; refine wpList_append_own _ rfl _ _ 93 rfl W.heap.size 5 i0 (.int .u8 0) 1 1 Tryz.underlying93 HI.out.1 HI.out.2.1 HI.out.2.2.1 HI.out.2.2.2 rfl (by decide) _ _ _ rfl (HN0.out.alloc _) ⟨W.heap.size, 0, none⟩ 1 1 [.int .u8 (45)] rfl rfl (cell_one_new _ _ _) (by simp [Value.oneCell']) (by unfold maxLen; omega) (by omega) (by simp) ?_; intro v' w1 hown1 hgrow1 _; have HO1 := Lib.hid hown1; have HG1 := Lib.hid hgrow1; have HOA : Hid (w1.ownsRow W.heap.size 5 1 v' 1 ((byz [45]).map (Value.int .u8))) := hown1; have HB1 : Hid (Below W.heap.size W w1) := ((Below.refl _ _).alloc (Nat.le_refl _) _).grown hgrow1 (by simp) (fun k hk => by cases hk); have c00 := keep_cell HB1.out c00; have c01 := keep_cell HB1.out c01; clear hown1 hgrow1)
      go_loopg [3, 4] L (fun g v i wr => i = .int .i64 ((g : Int) - 1) ∧ g ≤ L ∧ Hid (wr.ownsRow W.heap.size 5 1 v (1 + (L - g)) ((byz ([45] ++ topd N g)).map (Value.int .u8))) ∧ Hid (Below W.heap.size W wr))
      case atStart => exact ⟨rfl, Nat.le_refl _, by rw [HTE.out, Nat.sub_self]; exact HOA.out, HB1.out⟩
      case round =>
        obtain ⟨rfl, hg, HOW, HB⟩ := hrel
        have c00 := keep_cell HB.out C00.out
        have c01 := keep_cell HB.out C01.out
        by_cases hg0 : gk = 0
        · subst hg0
          have hcv := own_string HOW.out (by rw [List.length_append, topd_len]; have := HL.out; omega)
          rw [HRB.out] at hcv
          clear HOW
          go_wp2_with fail
          go_ret
          exact ⟨rfl, below_then' HB0.out HB.out⟩
        · obtain ⟨g, rfl⟩ : ∃ g, gk = g + 1 := ⟨gk - 1, by omega⟩
          rw [show (((g + 1 : Nat) : Int) - 1) = (g : Int) by omega]
          have hlt : g < L := by omega
          obtain ⟨a1, rfl, hcell⟩ := (HR.out.below HB.out) g (by rw [HL.out]; exact hlt)
          have hst := topd_step N g (by rw [HL.out]; exact hlt)
          obtain ⟨d0, d1⟩ := HIN.out.at_ (by decide) g
          rw [List.getD_eq_getElem?_getD] at d0 d1
          obtain ⟨d, hd⟩ : ∃ d, (dg 10 N)[g]?.getD 0 = d := ⟨_, rfl⟩
          rw [hd] at hcell hst d0 d1
          have hd1 : d < 10 := d1
          have HST := Lib.hid hst
          have HDB := Lib.hid (dig_byte d0 hd1)
          have hwr : IntKind.u8.wrap (48 + d) = 48 + d := by rw [show IntKind.u8.wrap (48 + d) = (48 + d) % 256 from rfl]; omega
          have j0 : (0 : Int) ≤ (g : Int) := by omega
          have j1 : (g : Int) < (L : Int) := by omega
          have hsz := HB.out.size
          clear hst hd d1
          go_wp2_with (at_builtin; refine wpList_append_own _ rfl _ _ 93 rfl W.heap.size 5 i0 (.int .u8 0) 1 1 Tryz.underlying93 HI.out.1 HI.out.2.1 HI.out.2.2.1 HI.out.2.2.2 rfl (by decide) _ _ _ rfl (HOW.out.alloc _) ⟨wr.heap.size, 0, none⟩ 1 1 [.int .u8 (48 + d)] rfl rfl (cell_one_new _ _ _) (by simp [Value.oneCell']) (by unfold maxLen; omega) (by omega) (by simp; omega) ?_; intro v' w1 hown1 hgrow1 _; have HO1 := Lib.hid hown1; have HG1 := Lib.hid hgrow1; clear hown1 hgrow1)
          go_roundg g
          case measure => omega
          case rel =>
            refine ⟨rfl, by omega, ?_, ?_⟩
            · have h1 := HO1.out
              rw [HST.out, ← List.append_assoc, byz_app, List.map_append, HDB.out, show L - g = L - (g + 1) + 1 by omega]
              exact h1
            · exact (HB.out.alloc hsz _).grown HG1.out (by simp; omega) ((own_from HOW.out).mono (by omega))
end Go.Proofs.YtekbfommnmikbaaGreatDoor

namespace Go.Proofs.YtekbfommnmikbaaGreatDoor
set_option linter.unusedVariables false
set_option linter.unusedSimpArgs false
open Go.RowKit Go.Shelf
attribute [local go_sem] max2_int min2_int max_two min_two

theorem tmod_abs (c : Int) (d : Nat) (hd : c.natAbs % 10 = d) : (c < 0 → c.tmod 10 = -(d : Int)) ∧ (0 < c → c.tmod 10 = (d : Int)) := by
  subst hd
  rcases Int.le_total 0 c with h | h
  · obtain ⟨k, rfl⟩ := Int.eq_ofNat_of_zero_le h
    exact ⟨fun h => by omega, fun _ => by rw [Int.natAbs_natCast]; rfl⟩
  · obtain ⟨k, hk⟩ := Int.eq_ofNat_of_zero_le (show 0 ≤ -c by omega)
    obtain rfl : c = -(k : Int) := by omega
    refine ⟨fun _ => ?_, fun h => by omega⟩
    rw [Int.neg_tmod, Int.natAbs_neg, Int.natAbs_natCast]; rfl
theorem tdiv_abs (c : Int) : (c.tdiv 10).natAbs = c.natAbs / 10 ∧ (c < 0 → c.tdiv 10 ≤ 0) ∧ (0 < c → 0 ≤ c.tdiv 10) := by
  refine ⟨?_, fun h => ?_, fun h => ?_⟩
  · rw [Int.natAbs_tdiv]; rfl
  · have := Int.tdiv_nonneg (a := -c) (b := 10) (by omega) (by omega)
    rw [Int.neg_tdiv] at this; omega
  · exact Int.tdiv_nonneg (by omega) (by omega)

set_option maxRecDepth 100000 in
set_option maxHeartbeats 4000000 in
theorem rfromint_c (n : Int) (w : World) (h0 : -9223372036854775808 ≤ n) (h1 : n ≤ 9223372036854775807) :
    Calls Tryz.prog 94 #[.int .i64 n] w fun e w' => e = .returned (.string ⟨(Lib.itoa n).toArray⟩) ∧ Below w.heap.size w w' := by
  by_cases hz : n = 0
  · subst hz
    rw [itoa_zero]
    go_enter Tryz.func94, Tryz.ntmps94
    go_wp2_with fail
    go_ret
    exact ⟨rfl, Below.refl _ _⟩
  · have hnz : (n == 0) = false := by simpa using hz
    obtain ⟨sg, hsg⟩ : ∃ sg, decide (n < 0) = sg := ⟨_, rfl⟩
    obtain ⟨N, hN⟩ : ∃ N, n.natAbs = N := ⟨_, rfl⟩
    have HSG := Lib.hid hsg
    have HN := Lib.hid hN
    have HLEN : Hid ((dg 10 N).length ≤ 20) := (dg_length_le (by decide) N 20).2 (by omega)
    have HZ := Lib.hid hz
    obtain ⟨r, hr⟩ : ∃ r : ByteArray, ⟨(Lib.itoa n).toArray⟩ = r := ⟨_, rfl⟩
    rw [hr]
    have HR := Lib.hid hr
    clear hr hN hz
    go_enter Tryz.func94, Tryz.ntmps94
    go_wp2_with fail
    go_loopg [0] N (fun g cv wr => ∃ (c : Int) (v : Value) (l : List Int), cv = .int .i64 c ∧ -9223372036854775808 ≤ c ∧ c ≤ 9223372036854775807 ∧ c.natAbs = g
      ∧ Hid (wr.heap[w.heap.size]? = some (.cells #[v, .bool sg] 58 (0, 0))) ∧ Hid (wr.ownsRow (w.heap.size + 1) 3 1 v l.length (l.map (Value.int .i64))) ∧ Hid (l ++ dg 10 g = dg 10 N) ∧ Hid (Below w.heap.size w wr))
    case atStart => exact ⟨n, .slice none 0 0, [], rfl, h0, h1, HN.out, heap_alloc_new _ _, World.ownsRow_nil _ _ _ _, rfl, (Below.refl _ _).alloc (Nat.le_refl _) _⟩
    case round =>
      obtain ⟨c, v, l, rfl, hc0, hc1', hg, HBX, HOW, HL, HB⟩ := hrel
      have b0 := box0 HBX.out
      have b1 := box1 HBX.out
      have f0 := free_of_heap HBX.out 0
      have hsz : w.heap.size < wr.heap.size := World.block_lt_of_cell? _ _ b0
      have hll : l.length ≤ 20 := by have h1 := congrArg List.length HL.out; rw [List.length_append] at h1; have := HLEN.out; omega
      by_cases hg0 : c = 0
      · subst hg0
        obtain rfl : gk = 0 := by simpa using hg.symm
        have hl := HL.out
        rw [dg_zero, List.append_nil] at hl
        subst hl
        obtain ⟨A, cp, rfl, hlc, hcm, hrow, -⟩ := own_row HOW.out
        have HRI : Hid (Ri wr (.agg #[.slice A (dg 10 N).length cp, .bool sg]) n) := ⟨_, by rw [HSG.out], A, cp, by rw [HN.out], by rw [HN.out]; exact hlc, by unfold maxLen at hcm; omega, by rw [HN.out]; exact hrow⟩
        have HLN : Hid ((dg 10 n.natAbs).length ≤ 1000000) := by show _ ≤ _; rw [HN.out]; have := HLEN.out; omega
        clear hrow hlc hcm
        go_wp2_with (go_at_call 138; (with_reducible refine (rtext_c _ n wr HRI.out HLN.out).mono ?_); rintro e w2 ⟨he, hbz⟩; rw [HR.out] at he; subst he; have HB2 := Lib.hid hbz; clear hbz)
        go_ret
        exact ⟨rfl, below_then' HB.out HB2.out⟩
      · have hcz : (c != 0) = true := by simpa using hg0
        obtain ⟨d, hd⟩ : ∃ d, c.natAbs % 10 = d := ⟨_, rfl⟩
        obtain ⟨t1, t2⟩ := tmod_abs c d hd
        obtain ⟨e1, e2, e3⟩ := tdiv_abs c
        have hd9 : d < 10 := by omega
        have HDG : Hid (dg 10 gk = (d : Int) :: dg 10 (gk / 10)) := by show _ = _; rw [dg_pos (by decide) (by omega), ← hd, hg]
        have HNE := Lib.hid (own_ne HOW.out (B := w.heap.size) (by omega))
        obtain ⟨i0, hi, hz0, hz1, hz2⟩ := info_parts info_int
        have HI := Lib.hid (And.intro hi (And.intro hz0 (And.intro hz1 hz2)))
        clear hi hz0 hz1 hz2
        rcases Int.lt_or_gt_of_ne hg0 with hlt | hgt
        · have T := t1 hlt
          have E2 := e2 hlt
          clear t1 t2 e2 e3
          by_cases hd0 : d = 0
          · subst hd0
            simp only [Int.natCast_zero, Int.neg_zero] at T
            go_wp2_with (at_builtin; refine wpList_append_lies _ rfl _ _ 56 rfl (w.heap.size + 1) 3 i0 (.int .i64 0) 1 8 Tryz.underlying56 HI.out.1 HI.out.2.1 HI.out.2.2.1 HI.out.2.2.2 rfl (by decide) _ _ _ rfl (HOW.out.alloc _) ⟨wr.heap.size, 0, none⟩ 1 1 [.int .i64 0] rfl rfl (cell_one_new _ _ _) (by simp [Value.oneCell']) (by omega) (by unfold maxLen; omega) (by omega) (by simp; omega) _ rfl ?_; intro gg cap w1 hown1 hgrow1 hat hlt1; have HX := Lib.hid (grown_put hgrow1 (heap_old _ HBX.out) HNE.out); have b0 := box0 HX.out; have b1 := box1 HX.out; have f0 := free_of_heap HX.out 0; have HO1 := Lib.hid hown1; have HG1 := Lib.hid hgrow1; clear hown1 hgrow1)
            go_roundg (gk / 10)
            case measure => omega
            case rel =>
              refine ⟨c.tdiv 10, .slice (some ⟨gg, 0, none⟩) (l.length + 1) cap, l ++ [0], rfl, by omega, by omega, by omega, box_put HX.out 0 _, ?_, ?_, ?_⟩
              · have h1 := own_setCell_other HO1.out ⟨w.heap.size, 0, none⟩ (.slice (some ⟨gg, 0, none⟩) (l.length + 1) cap) (own_ne HO1.out (by simp))
                rw [List.map_append, List.length_append]; exact h1
              · rw [List.append_assoc, List.singleton_append, ← HL.out, HDG.out]; rfl
              · exact ((HB.out.alloc (by omega) _).grown HG1.out (by simp; omega) ((own_from HOW.out).mono (by omega))).setCell (p := ⟨w.heap.size, 0, none⟩) (Nat.le_refl _) _
          · have hd1 : -(d : Int) < (d : Int) := by omega
            go_wp2_with (at_builtin; refine wpList_append_lies _ rfl _ _ 56 rfl (w.heap.size + 1) 3 i0 (.int .i64 0) 1 8 Tryz.underlying56 HI.out.1 HI.out.2.1 HI.out.2.2.1 HI.out.2.2.2 rfl (by decide) _ _ _ rfl (HOW.out.alloc _) ⟨wr.heap.size, 0, none⟩ 1 1 [.int .i64 (d : Int)] rfl rfl (cell_one_new _ _ _) (by simp [Value.oneCell']) (by omega) (by unfold maxLen; omega) (by omega) (by simp; omega) _ rfl ?_; intro gg cap w1 hown1 hgrow1 hat hlt1; have HX := Lib.hid (grown_put hgrow1 (heap_old _ HBX.out) HNE.out); have b0 := box0 HX.out; have b1 := box1 HX.out; have f0 := free_of_heap HX.out 0; have HO1 := Lib.hid hown1; have HG1 := Lib.hid hgrow1; clear hown1 hgrow1)
            go_roundg (gk / 10)
            case measure => omega
            case rel =>
              refine ⟨c.tdiv 10, .slice (some ⟨gg, 0, none⟩) (l.length + 1) cap, l ++ [(d : Int)], rfl, by omega, by omega, by omega, box_put HX.out 0 _, ?_, ?_, ?_⟩
              · have h1 := own_setCell_other HO1.out ⟨w.heap.size, 0, none⟩ (.slice (some ⟨gg, 0, none⟩) (l.length + 1) cap) (own_ne HO1.out (by simp))
                rw [List.map_append, List.length_append]; exact h1
              · rw [List.append_assoc, List.singleton_append, ← HL.out, HDG.out]; rfl
              · exact ((HB.out.alloc (by omega) _).grown HG1.out (by simp; omega) ((own_from HOW.out).mono (by omega))).setCell (p := ⟨w.heap.size, 0, none⟩) (Nat.le_refl _) _
        · have T := t2 hgt
          have E3 := e3 hgt
          have T2 : c % 10 = (d : Int) := by omega
          have T3 : (c / 10).natAbs = gk / 10 := by omega
          clear t1 t2 e2 e3
          by_cases hd0 : d = 0
          · subst hd0
            simp only [Int.natCast_zero] at T T2
            go_wp2_with (at_builtin; refine wpList_append_lies _ rfl _ _ 56 rfl (w.heap.size + 1) 3 i0 (.int .i64 0) 1 8 Tryz.underlying56 HI.out.1 HI.out.2.1 HI.out.2.2.1 HI.out.2.2.2 rfl (by decide) _ _ _ rfl (HOW.out.alloc _) ⟨wr.heap.size, 0, none⟩ 1 1 [.int .i64 0] rfl rfl (cell_one_new _ _ _) (by simp [Value.oneCell']) (by omega) (by unfold maxLen; omega) (by omega) (by simp; omega) _ rfl ?_; intro gg cap w1 hown1 hgrow1 hat hlt1; have HX := Lib.hid (grown_put hgrow1 (heap_old _ HBX.out) HNE.out); have b0 := box0 HX.out; have b1 := box1 HX.out; have f0 := free_of_heap HX.out 0; have HO1 := Lib.hid hown1; have HG1 := Lib.hid hgrow1; clear hown1 hgrow1)
            go_roundg (gk / 10)
            case measure => omega
            case rel =>
              refine ⟨c.tdiv 10, .slice (some ⟨gg, 0, none⟩) (l.length + 1) cap, l ++ [0], rfl, by omega, by omega, by omega, box_put HX.out 0 _, ?_, ?_, ?_⟩
              · have h1 := own_setCell_other HO1.out ⟨w.heap.size, 0, none⟩ (.slice (some ⟨gg, 0, none⟩) (l.length + 1) cap) (own_ne HO1.out (by simp))
                rw [List.map_append, List.length_append]; exact h1
              · rw [List.append_assoc, List.singleton_append, ← HL.out, HDG.out]; rfl
              · exact ((HB.out.alloc (by omega) _).grown HG1.out (by simp; omega) ((own_from HOW.out).mono (by omega))).setCell (p := ⟨w.heap.size, 0, none⟩) (Nat.le_refl _) _
          · have hd1 : ¬ (d : Int) < -(d : Int) := by omega
            go_wp2_with (at_builtin; refine wpList_append_lies _ rfl _ _ 56 rfl (w.heap.size + 1) 3 i0 (.int .i64 0) 1 8 Tryz.underlying56 HI.out.1 HI.out.2.1 HI.out.2.2.1 HI.out.2.2.2 rfl (by decide) _ _ _ rfl (HOW.out.alloc _) ⟨wr.heap.size, 0, none⟩ 1 1 [.int .i64 (d : Int)] rfl rfl (cell_one_new _ _ _) (by simp [Value.oneCell']) (by omega) (by unfold maxLen; omega) (by omega) (by simp; omega) _ rfl ?_; intro gg cap w1 hown1 hgrow1 hat hlt1; have HX := Lib.hid (grown_put hgrow1 (heap_old _ HBX.out) HNE.out); have b0 := box0 HX.out; have b1 := box1 HX.out; have f0 := free_of_heap HX.out 0; have HO1 := Lib.hid hown1; have HG1 := Lib.hid hgrow1; clear hown1 hgrow1)
            go_roundg (gk / 10)
            case measure => omega
            case rel =>
              refine ⟨c.tdiv 10, .slice (some ⟨gg, 0, none⟩) (l.length + 1) cap, l ++ [(d : Int)], rfl, by omega, by omega, by omega, box_put HX.out 0 _, ?_, ?_, ?_⟩
              · have h1 := own_setCell_other HO1.out ⟨w.heap.size, 0, none⟩ (.slice (some ⟨gg, 0, none⟩) (l.length + 1) cap) (own_ne HO1.out (by simp))
                rw [List.map_append, List.length_append]; exact h1
              · rw [List.append_assoc, List.singleton_append, ← HL.out, HDG.out]; rfl
              · exact ((HB.out.alloc (by omega) _).grown HG1.out (by simp; omega) ((own_from HOW.out).mono (by omega))).setCell (p := ⟨w.heap.size, 0, none⟩) (Nat.le_refl _) _
end Go.Proofs.YtekbfommnmikbaaGreatDoor

namespace Go.Proofs.YtekbfommnmikbaaGreatDoor
set_option linter.unusedVariables false
set_option linter.unusedSimpArgs false
open Go.RowKit

/-- append of a row, nil or not, to a row of the call's own. -/
theorem append_nat (w : World) {ops : Array Oper} {rest : List Oper} {o : Oper} {a : Act} {Q : Exit → Act → World → Prop}
    (hg : o.guard = none) (s x : Operand) (hop : o.op = Op.call { callee := Callee.builtin Builtin.append, args := #[s, x], argTypes := #[56, 56] })
    (base : Nat) (v : Value) (k : Nat) (ys : List Int) (hs : a.eval s = v) (hown : w.ownsRow base 3 1 v k (ys.map (Value.int .i64))) (A : Option Addr) (c : Nat) (xs : List Int) (hx : a.eval x = .slice A xs.length c) (hr : Row .i64 w A xs)
    (b1 : k + xs.length ≤ 10000000) (b3 : base ≤ w.heap.size)
    (hK : ∀ v' w', w'.ownsRow base 3 1 v' (k + xs.length) ((ys ++ xs).map (Value.int .i64)) → w.grownBy w' v.ownBlock → wpList Tryz.prog ops Q rest (a.put o.dst v') w') :
    wpList Tryz.prog ops Q (o :: rest) a w := by
  obtain ⟨i0, hi, hz0, hz1, hz2⟩ := info_parts info_int
  cases A with
  | none =>
    have hx0 : xs = [] := by
      cases xs with
      | nil => rfl
      | cons x xs => obtain ⟨a, e, _⟩ := hr 0 (by simp); cases e
    subst hx0
    refine wpList_plain hg fun K hK' => ?_
    have hrun := run_append_none (P := Tryz.prog) (w := w) base 56 o.type 3 i0 1 Tryz.underlying56 hi v k c _ hown
    simp only [List.length_nil] at hx
    unfold Oper.wp execOp
    simp only [hop, resolve, invoke, builtin, Sem.run_bind, Sem.run_pure, Result.andThen_ok, List.map_toArray, List.map_cons, List.map_nil, hs, hx, hrun]
    exact hK' _ _ (hK v w (by simpa using hown) ⟨rfl, rfl, rfl, Nat.le_refl _, fun _ _ _ => rfl⟩)
  | some ad =>
    refine wpList_append_own w hg s x 56 hop base 3 i0 (.int .i64 0) 1 8 Tryz.underlying56 hi hz0 hz1 hz2 rfl (by decide) v k _ hs hown ad xs.length c (xs.map (Value.int .i64)) hx (by simp) ?_ ?_ (by unfold maxLen; omega) (by omega) b3 ?_
    · intro j u hj
      have hjn : j < xs.length := by
        have := (List.getElem?_eq_some_iff.1 hj).1
        simpa using this
      obtain ⟨a', e, hc⟩ := hr j hjn
      cases e
      rw [hc]
      rw [List.getElem?_map, List.getElem?_eq_getElem hjn] at hj
      rw [List.getElem?_eq_getElem hjn]
      exact hj
    · intro u hu; obtain ⟨x, _, rfl⟩ := List.mem_map.1 hu; rfl
    · intro v' w' h1 h2 _
      exact hK v' w' (by simpa using h1) h2

/-- The number of the digits from place g on. -/
def vn (p : List Int) (g : Nat) : Nat := (val 10 (p.drop g)).toNat
theorem vn_end (p : List Int) : vn p p.length = 0 := by simp [vn, val]
theorem vn_step {p : List Int} (hp : InR 10 p) (g : Nat) (hg : g < p.length) : (vn p g : Int) = p[g]?.getD 0 + 10 * (vn p (g + 1) : Int) := by
  have h0 := val_nonneg (hp.drop g)
  have h1 := val_nonneg (hp.drop (g + 1))
  have h2 := val_drop 10 p g hg
  rw [List.getD_eq_getElem?_getD] at h2
  unfold vn
  rw [show ((10 : Nat) : Int) = 10 from rfl] at h2
  omega
theorem vn_zero {p : List Int} {m : Nat} (hv : val 10 p = (m : Int)) : vn p 0 = m := by
  unfold vn; rw [List.drop_zero, hv]; rfl
theorem div_digit {V d n R : Nat} (hn : 0 < n) (hR : R = V % n) : (d + 10 * V) / n = 10 * (V / n) + (d + 10 * R) / n ∧ (d + 10 * V) % n = (d + 10 * R) % n := by
  have h := Nat.div_add_mod V n
  have e : d + 10 * V = (d + 10 * R) + n * (10 * (V / n)) := by
    have e1 : n * (10 * (V / n)) = 10 * (n * (V / n)) := Nat.mul_left_comm _ _ _
    omega
  rw [e]
  constructor
  · rw [Nat.add_mul_div_left _ _ hn]; omega
  · rw [Nat.add_mul_mod_self_left]
theorem div_done {g n q R : Nat} (h : g + q * n = R) (hg : g < n) : R / n = q ∧ R % n = g := by
  subst h
  constructor
  · rw [Nat.add_mul_div_right _ _ (by omega), Nat.div_eq_of_lt hg]; omega
  · rw [Nat.add_mul_mod_self_right, Nat.mod_eq_of_lt hg]
theorem dg_len_next {r n d : Nat} (h : r < n) (hd : d < 10) : (dg 10 (d + 10 * r)).length ≤ (dg 10 n).length + 1 := by
  refine (dg_length_le (by decide) _ _).2 ?_
  have := lt_pow_length (b := 10) (by decide) n
  rw [Nat.pow_succ]; omega
theorem set_drop {lq : List Int} {g : Nat} (hg : g < lq.length) (x : Int) : val 10 ((lq.set g x).drop g) = x + 10 * val 10 (lq.drop (g + 1)) := by
  rw [val_drop 10 _ g (by simpa using hg), List.getD_eq_getElem?_getD, List.getElem?_set_self hg, List.drop_set_of_lt (by omega)]
  rfl

/-- What natDiv returns. -/
def RDivP (m n : Nat) (w : World) (e : Ending) (w' : World) : Prop :=
  ∃ q r, e = .returned (.agg #[q, r]) ∧ Dg 10 w' q (m / n) ∧ Dg 10 w' r (m % n) ∧ FromB w.heap.size q ∧ FromB w.heap.size r ∧ Below w.heap.size w w'

theorem dd_set {W2 : World} {B m n : Nat} {p q : Value} {z0 z1 : Value} (h0 : W2.cell? ⟨B, 0, none⟩ = some z0) (h1 : W2.cell? ⟨B, 1, none⟩ = some z1) (hp : Dg 10 W2 p m) (hq : Dg 10 W2 q n) (fp : FromB (B + 1) p) (fq : FromB (B + 1) q) :
    ∃ F, (W2.setCell ⟨B, 0, none⟩ p).setCell ⟨B, 1, none⟩ q = F ∧ F.cell? ⟨B, 0, none⟩ = some p ∧ F.cell? ⟨B, 1, none⟩ = some q ∧ Dg 10 F p m ∧ Dg 10 F q n ∧ (∀ k w, k ≤ B → Below k w W2 → Below k w F) :=
  ⟨_, rfl, set_other _ (by simp) (set_same _ h0), set_same _ (set_other _ (by simp) h1), (hp.set fp (by simp) _).set fp (by simp) _, (hq.set fq (by simp) _).set fq (by simp) _, fun k w hk hb => (hb.setCell hk _).setCell hk _⟩

set_option maxRecDepth 100000 in
set_option maxHeartbeats 4000000 in
theorem natDiv_c (v1 v2 : Value) (m n : Nat) (w : World) (h1 : Dg 10 w v1 m) (h2 : Dg 10 w v2 n) (hn : 0 < n) (hm : (dg 10 m).length ≤ 1000000) (hnl : (dg 10 n).length ≤ 999999) :
    Calls Tryz.prog 182 #[v1, v2] w (RDivP m n w) := by
  obtain ⟨A1, c1, rfl, hc1, _, hr1⟩ := h1
  have HQ0 := Lib.hid h2
  obtain ⟨A2, c2, rfl, hc2, _, hr2⟩ := h2
  have HR1 := Lib.hid hr1
  have I1 := Lib.hid (dg_inR (b := 10) (by decide) m)
  have V1 := Lib.hid (vn_zero (val_dg (b := 10) (by decide) m))
  clear hr1 hr2
  have HNL := Lib.hid hnl
  have HN := Lib.hid hn
  generalize dg 10 m = p at *
  obtain ⟨L2, hL2⟩ : ∃ L2, (dg 10 n).length = L2 := ⟨_, rfl⟩
  rw [hL2] at HQ0 hc2 ⊢
  have HL2 := Lib.hid hL2
  clear hL2 hnl
  have hmk := make_nat p.length p.length (by simp) (by omega)
  obtain ⟨L, hL⟩ : ∃ L, p.length = L := ⟨_, rfl⟩
  rw [hL] at hmk hm ⊢
  have HL := Lib.hid hL
  clear hL hn
  go_enter Tryz.func182, Tryz.ntmps182
  go_wp2_with fail
  clear hmk
  have hbx0 : ((w.alloc (.cells #[.slice none 0 0, .slice none 0 0] 186)).alloc (.cells (madeCells #[.int .i64 0] L) 3)).heap[w.heap.size]? = some (.cells #[.slice none 0 0, .slice none 0 0] 186 (0, 0)) := heap_old _ (heap_alloc_new _ _)
  have hown0 := own_zeros (w.alloc (.cells #[.slice none 0 0, .slice none 0 0] 186)) L (by omega)
  rw [show (w.alloc (.cells #[.slice none 0 0, .slice none 0 0] 186)).heap.size = w.heap.size + 1 by simp] at hown0
  have hB0 : Below w.heap.size w ((w.alloc (.cells #[.slice none 0 0, .slice none 0 0] 186)).alloc (.cells (madeCells #[.int .i64 0] L) 3)) := ((Below.refl _ _).alloc (Nat.le_refl _) _).alloc (by simp) _
  generalize (w.alloc (.cells #[.slice none 0 0, .slice none 0 0] 186)).alloc (.cells (madeCells #[.int .i64 0] L) 3) = w0 at *
  have HBX0 := Lib.hid hbx0
  have HO0 := Lib.hid hown0
  have HB0 := Lib.hid hB0
  clear hbx0 hown0 hB0
  go_loopg [6, 7] L (fun g rv iv wr => ∃ (r : Nat) (lq : List Int), iv = .int .i64 ((g : Int) - 1) ∧ g ≤ L ∧ Hid (Dg 10 wr rv r ∧ FromB (w.heap.size + 1 + 1) rv)
      ∧ Hid (wr.ownsRow (w.heap.size + 1) 3 1 (.slice (some ⟨w.heap.size + 1, 0, none⟩) L L) L (lq.map (Value.int .i64)))
      ∧ Hid (lq.length = L ∧ InR 10 lq ∧ (∀ j, j < g → lq[j]?.getD 0 = 0) ∧ val 10 (lq.drop g) = ((vn p g / n : Nat) : Int) ∧ r = vn p g % n)
      ∧ Hid (wr.heap[w.heap.size]? = some (.cells #[.slice none 0 0, .slice none 0 0] 186 (0, 0))) ∧ Hid (Below w.heap.size w wr))
  case atStart =>
    refine ⟨0, List.replicate L 0, rfl, Nat.le_refl _, ⟨Dg.zero (by decide) _, fun k hk => by cases hk⟩, HO0.out, ⟨by simp, InR.replicate (by decide) _, fun j _ => by rw [List.getElem?_replicate]; split <;> rfl, ?_, ?_⟩, HBX0.out, HB0.out⟩
    · have := vn_end p; rw [HL.out] at this; rw [this, List.drop_eq_nil_of_le (by simp)]; simp [val]
    · have := vn_end p; rw [HL.out] at this; rw [this]; simp
  case round =>
    obtain ⟨r, lq, rfl, hg, HD, HOW, HV, HBX, HB⟩ := hrel
    by_cases hg0 : gk = 0
    · subst hg0
      obtain ⟨hll, hli, hlz, hlv, hlr⟩ := HV.out
      rw [List.drop_zero, V1.out] at hlv
      rw [V1.out] at hlr
      obtain ⟨A, c, hve, hlc, hcm, hrow, hln⟩ := own_row HOW.out
      obtain ⟨rfl, -, rfl⟩ := Value.slice.inj hve
      obtain ⟨A3, c3, hrv, hc3, hm3, hrow3⟩ := HD.out.1
      subst hrv
      have HROW := Lib.hid hrow
      have HIN := Lib.hid hli
      have HVL := Lib.hid hlv
      have HRR := Lib.hid hlr
      have hcm' : L ≤ 9223372036854775807 := by omega
      have HLL := Lib.hid hll
      have hlc' : lq.length ≤ L := hlc
      have f00 := free_of_heap HBX.out 0; have f01 := free_of_heap HBX.out 1
      have c00 := cell_of_heap HBX.out 0; have c01 := cell_of_heap HBX.out 1
      simp at c00 c01
      obtain ⟨L3, hL3⟩ : ∃ L3, (dg 10 r).length = L3 := ⟨_, rfl⟩
      have HL3 := Lib.hid hL3
      rw [hL3]
      clear hll hli hlz hlv hlr hve hln hrow hc3 hm3 hrow3 hL3 hlc hcm
      go_wp2_with (go_at_call 160; rw [show (Value.slice (some ⟨w.heap.size + 1, 0, none⟩) L L) = Value.slice (some ⟨w.heap.size + 1, 0, none⟩) lq.length L from by rw [HLL.out]]; refine (trim_c _ L lq wr HROW.out hlc' hcm').mono ?_; intro e w1 hcut; obtain ⟨rfl, v, rfl, hdg, hblk⟩ := cut_dg (b := 10) (by decide) HROW.out hlc' hcm' HIN.out HVL.out hcut; obtain ⟨A9, n9, c9, rfl⟩ := hdg.form; have HDG := Lib.hid hdg; have HF9 : Hid (FromB (w.heap.size + 1) (.slice A9 n9 c9)) := (fun k hk => by obtain ⟨a, ha, rfl⟩ := hblk k hk; cases ha; exact Nat.le_refl _); clear hdg hblk hcut)
      have HDR : Dg 10 wr (.slice A3 L3 c3) r := by have := HD.out.1; rw [HL3.out] at this; exact this
      have HFR : FromB (w.heap.size + 1) (.slice A3 L3 c3) := by have := HD.out.2; rw [HL3.out] at this; exact this.mono (by omega)
      obtain ⟨F, hF, r0, r1, hd0, hd1, hbf⟩ := dd_set c00 c01 HDG.out HDR HF9.out HFR
      rw [hF]
      refine bodyPost_ret (v := .agg #[.slice A9 n9 c9, .slice A3 L3 c3]) (by simp [results, Tryz.results182, go_sem, r0, r1]) rfl ?_
      rw [HRR.out] at hd1
      exact ⟨_, _, rfl, hd0, hd1, HF9.out.mono (by omega), HFR.mono (by omega), hbf _ _ (Nat.le_refl _) HB.out⟩
    · obtain ⟨g, rfl⟩ : ∃ g, gk = g + 1 := ⟨gk - 1, by omega⟩
      rw [show (((g + 1 : Nat) : Int) - 1) = (g : Int) by omega]
      have hlt : g < L := by omega
      obtain ⟨a1, rfl, hcell⟩ := (HR1.out.below HB.out) g (by rw [HL.out]; exact hlt)
      have hst := vn_step I1.out g (by rw [HL.out]; exact hlt)
      have hin := I1.out.at_ (by decide) g
      rw [List.getD_eq_getElem?_getD] at hin
      obtain ⟨d, hd⟩ : ∃ d : Nat, p[g]?.getD 0 = (d : Int) := ⟨(p[g]?.getD 0).toNat, by omega⟩
      rw [hd] at hcell hst hin
      have hd9 : d < 10 := by omega
      have hst' : vn p g = d + 10 * vn p (g + 1) := by omega
      obtain ⟨hll, hli, hlz, hlv, hlr⟩ := HV.out
      have hrn : r < n := by rw [hlr]; exact Nat.mod_lt _ HN.out
      obtain ⟨hdv, hdm⟩ := div_digit (d := d) HN.out hlr
      have hlen := dg_len_next hrn hd9
      obtain ⟨R, hR⟩ : ∃ R, d + 10 * r = R := ⟨_, rfl⟩
      rw [hR] at hdv hdm hlen
      have HST := Lib.hid hst'
      have HDV := Lib.hid hdv
      have HDM := Lib.hid hdm
      have HRN := Lib.hid hrn
      have HR := Lib.hid hR
      have HD9 := Lib.hid hd9
      have HLEN : Hid ((dg 10 R).length ≤ 1000000) := by have := HNL.out; show _ ≤ _; omega
      have HRL : Hid ((dg 10 r).length ≤ 1000000) := by have := HNL.out; have := dg_length_mono (b := 10) (by decide) (Nat.le_of_lt hrn); show _ ≤ _; omega
      obtain ⟨A3, c3, hrv, hc3, hm3, hrow3⟩ := HD.out.1
      subst hrv
      have HROW3 := Lib.hid (hrow3.below ((Below.refl _ _).alloc (Nat.le_refl _) (.cells #[.int .i64 (d : Int)] 3)))
      have HVL : Hid (val 10 ((d : Int) :: dg 10 r) = (R : Int)) := by show _ = _; rw [val_cons, val_dg (by decide), ← hR]; simp
      have HIR : Hid (InR 10 ((d : Int) :: dg 10 r)) := InR.cons (by omega) (show (d : Int) < 10 from by omega) (dg_inR (by decide) r)
      obtain ⟨L3, hL3⟩ : ∃ L3, (dg 10 r).length = L3 := ⟨_, rfl⟩
      have HL3 := Lib.hid hL3
      rw [hL3]
      have hsz : w.heap.size + 1 + 1 ≤ wr.heap.size := (HOW.out.lt _ rfl).2
      have j0 : (0 : Int) ≤ (g : Int) := by omega
      have j1 : (g : Int) < (L : Int) := by omega
      clear hst hin hst' hll hli hlz hlv hlr hrn hdv hdm hlen hR hc3 hm3 hrow3 hd hL3 HD hd9
      have hm3' : L3 ≤ 1000000 := by rw [← HL3.out]; exact HRL.out
      go_wp2_with (first
        | (at_builtin; refine append_nat _ rfl _ _ rfl wr.heap.size _ 1 [(d : Int)] rfl (World.ownsRow_lit (e := 3) (size := 1) wr #[.int .i64 (d : Int)] 1 (Nat.le_refl _) (by decide) (by simp)) A3 c3 (dg 10 r) (by rw [HL3.out]; rfl) HROW3.out (by rw [HL3.out]; omega) (by simp) ?_; intro v4 w1 hown1 hgrow1; have HBW : Hid (Below wr.heap.size wr w1) := ((Below.refl _ _).alloc (Nat.le_refl _) _).grown hgrow1 (by simp) (fun k hk => by cases hk; exact Nat.le_refl _); obtain ⟨A4, c4, rfl, hlc4, hcm4, hrow4, hln4⟩ := own_row hown1; have HF4 := Lib.hid (own_from hown1); have HROW4 := Lib.hid hrow4; have HLC4 := Lib.hid hlc4; have HCM4 := Lib.hid (show c4 ≤ 9223372036854775807 from by unfold maxLen at hcm4; omega); clear hown1 hgrow1 hrow4 hlc4 hcm4 hln4)
        | (go_at_call 160; refine (trim_c A4 c4 _ w1 HROW4.out HLC4.out HCM4.out).mono ?_; intro e w' hcut; obtain ⟨rfl, v5, rfl, hdg, hblk⟩ := cut_dg (b := 10) (by decide) HROW4.out HLC4.out HCM4.out HIR.out HVL.out hcut; have HDG := Lib.hid hdg; have HF5 : Hid (FromB (w.heap.size + 1 + 1) v5) := (fun k hk => by obtain ⟨a, rfl, rfl⟩ := hblk k hk; exact Nat.le_trans hsz (HF4.out _ rfl)); clear hdg hblk))
      have HB1 := Lib.hid (below_then HB.out HBW.out (by omega))
      have HO1 := Lib.hid (own_below HOW.out HBW.out)
      have HBX1 := Lib.hid (heap_below HBX.out HBW.out)
      have HLQ := Lib.hid (And.intro HV.out.1 (And.intro HV.out.2.1 (And.intro HV.out.2.2.1 HV.out.2.2.2.1)))
      have hsz1 : w.heap.size + 1 + 1 ≤ w1.heap.size := Nat.le_trans hsz HBW.out.size
      have HR10 : Hid (R < 10 * n) := by show _ < _; have := HRN.out; have := HD9.out; have := HR.out; omega
      clear HROW4 HROW3 HV HOW HBX HF4 HIR HVL hcell hm3' HLC4 HCM4
      go_loopg [6] R (fun g' rv w3 => ∃ (q : Nat) (lq2 : List Int), Hid (Dg 10 w3 rv g' ∧ FromB (w.heap.size + 1 + 1) rv) ∧ Hid (g' + q * n = R ∧ lq2 = lq.set g (q : Int))
          ∧ Hid (w3.ownsRow (w.heap.size + 1) 3 1 (.slice (some ⟨w.heap.size + 1, 0, none⟩) L L) L (lq2.map (Value.int .i64)))
          ∧ Hid (w3.heap[w.heap.size]? = some (.cells #[.slice none 0 0, .slice none 0 0] 186 (0, 0))) ∧ Hid (Below w.heap.size w w3) ∧ w.heap.size + 1 + 1 ≤ w3.heap.size)
      case atStart =>
        refine ⟨0, lq, ⟨HDG.out, HF5.out⟩, ⟨by simp, ?_⟩, HO1.out, HBX1.out, HB1.out, hsz1⟩
        obtain ⟨hll, -, hlz, -⟩ := HLQ.out
        refine List.ext_getElem (by simp) fun j h1 h2 => ?_
        by_cases e : g = j
        · subst e
          have := hlz g (by omega)
          rw [List.getElem?_eq_getElem h1] at this
          rw [List.getElem_set_self]; exact this
        · rw [List.getElem_set_ne e]
      case round =>
        obtain ⟨q, lq2, HD2, HQ, HO2, HBX2, HB2, hsz2⟩ := hrel
        obtain ⟨hll, hli, hlz, hlv⟩ := HLQ.out
        have hqr := HQ.out.1
        have hql := HQ.out.2
        subst hql
        clear HQ
        have hq10 : q < 10 := by
          have h1 := HR10.out
          have h2 : q * n < 10 * n := by omega
          exact Nat.lt_of_mul_lt_mul_right h2
        have HLG : Hid ((dg 10 gk).length ≤ 1000000) := by show _ ≤ _; have := dg_length_mono (b := 10) (by decide) (show gk ≤ R by omega); have := HLEN.out; omega
        have HQ2 := Lib.hid (HQ0.out.below HB2.out)
        have HNL1 : Hid ((dg 10 n).length ≤ 1000000) := by show _ ≤ _; have := HNL.out; omega
        obtain ⟨s, hsn⟩ : ∃ s, sgn ((gk : Int) - (n : Int)) = s := ⟨_, rfl⟩
        have HSN := Lib.hid hsn
        by_cases hle : n ≤ gk
        · have hs0 : 0 ≤ s := by rw [← hsn]; unfold sgn; split <;> (try split) <;> omega
          have hq9 : q < 9 := by
            have h1 := HR10.out
            have h2 : (q + 1) * n < 10 * n := by rw [Nat.add_mul]; omega
            have := Nat.lt_of_mul_lt_mul_right h2
            omega
          have HLE := Lib.hid hle
          have hcq : wr.cell? ⟨w.heap.size + 1, g, none⟩ = some (.int .i64 (q : Int)) := by
            rw [own_cell HO2.out g hlt (by simpa using hll), List.getElem?_set_self (by omega)]; rfl
          have hfq : wr.frozen? ⟨w.heap.size + 1, g, none⟩ = false := HO2.out.frozenAt g
          have HQR := Lib.hid hqr
          clear hll hli hlz hlv hqr hsn hle
          go_wp2_with (first
            | (go_at_call 183; (with_reducible refine (natCmp_c _ _ gk n _ HD2.out.1 HQ2.out HLG.out HNL1.out).mono ?_); rintro e w4 ⟨he, hbz⟩; rw [HSN.out] at he; subst he; have HB4 := Lib.hid hbz; have HS4 := Lib.hid hbz.size; clear hbz)
            | (go_at_call 217; (with_reducible refine (natSub_c _ _ gk n _ (HD2.out.1.below HB4.out) (HQ2.out.below HB4.out) HLG.out HLE.out).mono ?_); rintro e w5 ⟨u, rfl, hu, hfu, hbz⟩; have HU := Lib.hid hu; have HFU : Hid (FromB (w.heap.size + 1 + 1) u) := Lib.hid (hfu.mono (Nat.le_trans hsz2 HS4.out)); have HB5 := Lib.hid (below_then' HB4.out hbz); have hcq := keep_cell HB5.out hcq; have hfq := keep_free' HB5.out (by assumption) hfq; clear hbz hu hfu))
          go_roundg (gk - n)
          case measure => have := HN.out; have := HLE.out; omega
          case rel =>
            refine ⟨q + 1, lq.set g ((q + 1 : Nat) : Int), ⟨HU.out.set HFU.out (by simp) _, HFU.out⟩, ⟨?_, rfl⟩, ?_, (Below.heap_setCell _ _ _ _ (by simp)).trans (heap_below HBX2.out HB5.out), (below_then HB2.out HB5.out (by omega)).setCell (p := ⟨w.heap.size + 1, g, none⟩) (by simp) _, ?_⟩
            · have := HQR.out; have := HLE.out; rw [Nat.add_mul]; omega
            · have h1 := store_own (own_below HO2.out HB5.out) g ((q : Int) + 1)
              rw [List.set_set] at h1
              exact h1
            · simp; exact Nat.le_trans hsz2 HB5.out.size
        · have hs0 : s < 0 := by rw [← hsn, sgn_lt (by omega)]; decide
          have HLE := Lib.hid (Nat.lt_of_not_le hle)
          have HQR := Lib.hid hqr
          have HQ10 := Lib.hid hq10
          clear hll hli hlz hlv hqr hsn hle
          go_wp2_with (go_at_call 183; (with_reducible refine (natCmp_c _ _ gk n _ HD2.out.1 HQ2.out HLG.out HNL1.out).mono ?_); rintro e w4 ⟨he, hbz⟩; rw [HSN.out] at he; subst he; have HB4 := Lib.hid hbz; have HS4 := Lib.hid hbz.size; clear hbz)
          go_roundg g
          case measure => omega
          case rel =>
            obtain ⟨hll, hli, hlz, hlv⟩ := HLQ.out
            obtain ⟨e1, e2⟩ := div_done HQR.out HLE.out
            refine ⟨gk, lq.set g (q : Int), rfl, by omega, ⟨HD2.out.1.below HB4.out, HD2.out.2⟩, own_below HO2.out HB4.out, ⟨by simpa using hll, hli.set _ (by omega) (show (q : Int) < 10 from by omega), fun j hj => ?_, ?_, ?_⟩, heap_below HBX2.out HB4.out, below_then HB2.out HB4.out (by omega)⟩
            · rw [List.getElem?_set_ne (by omega)]; exact hlz j (by omega)
            · rw [set_drop (by omega), hlv, HST.out, HDV.out, e1]; simp; omega
            · rw [HST.out, HDM.out, e2]
end Go.Proofs.YtekbfommnmikbaaGreatDoor

namespace Go.Proofs.YtekbfommnmikbaaGreatDoor
set_option linter.unusedVariables false
set_option linter.unusedSimpArgs false
open Go.RowKit Go.Shelf

/-- A pair of the reference's integers. -/
def Pr (w : World) (v : Value) (x y : Int) : Prop := ∃ p q b1 b2, v = .agg #[p, .bool b1, q, .bool b2] ∧ Ri w (.agg #[p, .bool b1]) x ∧ Ri w (.agg #[q, .bool b2]) y
/-- A call returns such a pair, newly. -/
def PrP (x y : Int) (w : World) (e : Ending) (w' : World) : Prop := ∃ v, e = .returned v ∧ Pr w' v x y ∧ Below w.heap.size w w'
theorem Pr.form {w : World} {v : Value} {x y : Int} (h : Pr w v x y) : ∃ A n c b A' n' c' b', v = .agg #[.slice A n c, .bool b, .slice A' n' c', .bool b'] := by
  obtain ⟨p, q, b1, b2, rfl, hp, hq⟩ := h
  obtain ⟨A, n, c, b, e⟩ := hp.form
  obtain ⟨A', n', c', b', e'⟩ := hq.form
  simp at e e'
  exact ⟨A, n, c, b1, A', n', c', b2, by rw [e.1, e'.1]⟩
theorem Pr.parts {w : World} {p q : Value} {b1 b2 : Bool} {x y : Int} (h : Pr w (.agg #[p, .bool b1, q, .bool b2]) x y) : Ri w (.agg #[p, .bool b1]) x ∧ Ri w (.agg #[q, .bool b2]) y := by
  obtain ⟨p', q', c1, c2, e, hp, hq⟩ := h
  simp at e
  obtain ⟨rfl, rfl, rfl, rfl⟩ := e
  exact ⟨hp, hq⟩
theorem Pr.below {w w' : World} {v : Value} {x y : Int} (h : Pr w v x y) (hb : Below w.heap.size w w') : Pr w' v x y := by
  obtain ⟨p, q, b1, b2, rfl, hp, hq⟩ := h
  exact ⟨p, q, b1, b2, rfl, hp.below hb, hq.below hb⟩
theorem cut_signs (x y : Int) : ((decide (x < 0) != decide (y < 0)) && decide (0 < x.natAbs / y.natAbs)) = decide (x.tdiv y < 0) ∧ (decide (x < 0) && decide (0 < x.natAbs % y.natAbs)) = decide (x.tmod y < 0) := by
  have h1 : (x.tdiv y).natAbs = x.natAbs / y.natAbs := Int.natAbs_tdiv ..
  have h2 : (x.tmod y).natAbs = x.natAbs % y.natAbs := Int.natAbs_tmod ..
  constructor
  · rw [← h1]
    have k1 : 0 ≤ x → 0 ≤ y → 0 ≤ x.tdiv y := Int.tdiv_nonneg
    have k2 : x ≤ 0 → 0 ≤ y → x.tdiv y ≤ 0 := fun h h' => by have := Int.tdiv_nonneg (a := -x) (b := y) (by omega) h'; rw [Int.neg_tdiv] at this; omega
    have k3 : 0 ≤ x → y ≤ 0 → x.tdiv y ≤ 0 := fun h h' => by have := Int.tdiv_nonneg (a := x) (b := -y) h (by omega); rw [Int.tdiv_neg] at this; omega
    have k4 : x ≤ 0 → y ≤ 0 → 0 ≤ x.tdiv y := fun h h' => by have := Int.tdiv_nonneg (a := -x) (b := -y) (by omega) (by omega); rw [Int.tdiv_neg, Int.neg_tdiv] at this; omega
    clear h1 h2
    generalize x.tdiv y = t at *
    rw [Bool.eq_iff_iff]
    by_cases hx : x < 0 <;> by_cases hy : y < 0 <;> simp [hx, hy] <;> omega
  · rw [← h2]
    have k1 : 0 ≤ x → 0 ≤ x.tmod y := fun h => Int.tmod_nonneg y h
    have k2 : x ≤ 0 → x.tmod y ≤ 0 := fun h => by have := Int.tmod_nonneg (a := -x) y (by omega); rw [Int.neg_tmod] at this; omega
    clear h1 h2
    generalize x.tmod y = t at *
    rw [Bool.eq_iff_iff]
    simp
    omega
/-- Four stores into a box of a pair. -/
theorem pr_set {W2 : World} {B m n : Nat} {p q : Value} (b1 b2 : Bool) {z0 z1 z2 z3 : Value} (h0 : W2.cell? ⟨B, 0, none⟩ = some z0) (h1 : W2.cell? ⟨B, 1, none⟩ = some z1) (h2 : W2.cell? ⟨B, 2, none⟩ = some z2) (h3 : W2.cell? ⟨B, 3, none⟩ = some z3)
    (hp : Dg 10 W2 p m) (hq : Dg 10 W2 q n) (fp : FromB (B + 1) p) (fq : FromB (B + 1) q) :
    ∃ F, (((W2.setCell ⟨B, 0, none⟩ p).setCell ⟨B, 1, none⟩ (.bool b1)).setCell ⟨B, 2, none⟩ q).setCell ⟨B, 3, none⟩ (.bool b2) = F ∧ F.cell? ⟨B, 0, none⟩ = some p ∧ F.cell? ⟨B, 1, none⟩ = some (.bool b1) ∧ F.cell? ⟨B, 2, none⟩ = some q ∧ F.cell? ⟨B, 3, none⟩ = some (.bool b2) ∧ Dg 10 F p m ∧ Dg 10 F q n ∧ (∀ k w, k ≤ B → Below k w W2 → Below k w F) := by
  have k3 := set_other (a := ⟨B, 2, none⟩) q (by simp) (set_other (a := ⟨B, 1, none⟩) (.bool b1) (by simp) (set_other (a := ⟨B, 0, none⟩) p (by simp) h3))
  have k2 := set_other (a := ⟨B, 1, none⟩) (.bool b1) (by simp) (set_other (a := ⟨B, 0, none⟩) p (by simp) h2)
  refine ⟨_, rfl, set_other _ (by simp) (set_other _ (by simp) (set_other _ (by simp) (set_same _ h0))), set_other _ (by simp) (set_other _ (by simp) (set_same _ (set_other _ (by simp) h1))), set_other _ (by simp) (set_same _ k2), set_same _ k3, ?_, ?_, fun k w hk hb => (((hb.setCell hk _).setCell hk _).setCell hk _).setCell hk _⟩
  · exact (((hp.set fp (by simp) _).set fp (by simp) _).set fp (by simp) _).set fp (by simp) _
  · exact (((hq.set fq (by simp) _).set fq (by simp) _).set fq (by simp) _).set fq (by simp) _
set_option maxRecDepth 100000 in
set_option maxHeartbeats 4000000 in
theorem rcut_c (v1 v2 : Value) (x y : Int) (w : World) (h1 : Ri w v1 x) (h2 : Ri w v2 y) (hy : y ≠ 0) (hm : (dg 10 x.natAbs).length ≤ 1000000) (hn : (dg 10 y.natAbs).length ≤ 999999) :
    Calls Tryz.prog 125 #[v1, v2] w (PrP (x.tdiv y) (x.tmod y) w) := by
  obtain ⟨s1, s2⟩ := cut_signs x y
  rw [len_pos] at s1 s2
  obtain ⟨LQ, hLQ⟩ : ∃ L, (dg 10 (x.natAbs / y.natAbs)).length = L := ⟨_, rfl⟩
  obtain ⟨LR, hLR⟩ : ∃ L, (dg 10 (x.natAbs % y.natAbs)).length = L := ⟨_, rfl⟩
  rw [hLQ] at s1
  rw [hLR] at s2
  obtain ⟨t1, ht1⟩ : ∃ t, decide (x.tdiv y < 0) = t := ⟨_, rfl⟩
  obtain ⟨t2, ht2⟩ : ∃ t, decide (x.tmod y < 0) = t := ⟨_, rfl⟩
  rw [ht1] at s1
  rw [ht2] at s2
  obtain ⟨A1, n1, c1, bx, rfl⟩ := h1.form
  obtain ⟨A2, n2, c2, by_, rfl⟩ := h2.form
  obtain ⟨-, hbx⟩ := ri_parts h1
  obtain ⟨-, hby⟩ := ri_parts h2
  rw [← hbx, ← hby] at s1
  rw [← hbx] at s2
  obtain ⟨p1, e1, hp1⟩ := h1
  obtain ⟨p2, e2, hp2⟩ := h2
  have HS1 := Lib.hid s1; have HS2 := Lib.hid s2; have HT1 := Lib.hid ht1; have HT2 := Lib.hid ht2; have HLQ := Lib.hid hLQ; have HLR := Lib.hid hLR
  have HM := Lib.hid (And.intro hm (And.intro hn (show 0 < y.natAbs by omega)))
  have HP : Hid (Dg 10 w (.slice A1 n1 c1) x.natAbs) := by obtain ⟨e, -⟩ := (by simpa using e1 : _ ∧ _); show Dg 10 w _ _; rw [e]; exact hp1
  have HQ : Hid (Dg 10 w (.slice A2 n2 c2) y.natAbs) := by obtain ⟨e, -⟩ := (by simpa using e2 : _ ∧ _); show Dg 10 w _ _; rw [e]; exact hp2
  clear s1 s2 ht1 ht2 hLQ hLR hm hn hbx hby e1 e2 hp1 hp2 hy
  obtain ⟨W, hW, hh0, hh1, hh2, hbel, hsz⟩ := boxes3h w #[.slice A1 n1 c1, .bool bx] #[.slice A2 n2 c2, .bool by_] #[.slice none 0 0, .bool false, .slice none 0 0, .bool false] 58 58 120
  have c00 := cell_of_heap hh0 0; have c01 := cell_of_heap hh0 1; have c10 := cell_of_heap hh1 0; have c11 := cell_of_heap hh1 1
  simp at c00 c01 c10 c11
  have HH2 := Lib.hid hh2
  have HBEL := Lib.hid hbel.to
  have HSZ := Lib.hid hsz
  clear hh0 hh1 hh2 hbel hsz
  cases bx
  · cases by_
    · go_enter Tryz.func125, Tryz.ntmps125
      go_wp2_with (go_at_call 182; (with_reducible refine (natDiv_c _ _ x.natAbs y.natAbs _ (HP.out.below HBEL.out) (HQ.out.below HBEL.out) HM.out.2.2 HM.out.1 HM.out.2.1).mono ?_); rintro e W2 ⟨q, r, rfl, hq, hr, fq, fr, hbz⟩; have HDQ := Lib.hid hq; have HDR := Lib.hid hr; have HFQ := Lib.hid fq; have HFR := Lib.hid fr; obtain ⟨A3, c3, hv, -, -, -⟩ := hq; rw [HLQ.out] at hv; subst hv; obtain ⟨A4, c4, hv, -, -, -⟩ := hr; rw [HLR.out] at hv; subst hv; have HB2 := Lib.hid hbz; have a00 := fun o => keep_cell (hbz.alloc hbz.size o) c00; have a01 := fun o => keep_cell (hbz.alloc hbz.size o) c01; have a10 := fun o => keep_cell (hbz.alloc hbz.size o) c10; have a11 := fun o => keep_cell (hbz.alloc hbz.size o) c11; have hx := fun o => heap_below HH2.out (hbz.alloc hbz.size o); have a20 := fun o => cell_of_heap (hx o) 0; have a21 := fun o => cell_of_heap (hx o) 1; have a22 := fun o => cell_of_heap (hx o) 2; have a23 := fun o => cell_of_heap (hx o) 3; have f20 := fun o => free_of_heap (hx o) 0; have f21 := fun o => free_of_heap (hx o) 1; have f22 := fun o => free_of_heap (hx o) 2; have f23 := fun o => free_of_heap (hx o) 3; simp at a20 a21 a22 a23; clear hbz fq fr c00 c01 c10 c11 hx)
      obtain ⟨F, hF, r0, r1, r2, r3, hd0, hd1, hbf⟩ := pr_set false false (a20 _) (a21 _) (a22 _) (a23 _) (HDQ.out.below ((Below.refl _ _).alloc (Nat.le_refl _) (.cells #[.slice A3 LQ c3, .slice A4 LR c4] 186))) (HDR.out.below ((Below.refl _ _).alloc (Nat.le_refl _) _)) (HFQ.out.mono (Nat.le_of_eq HSZ.out.symm)) (HFR.out.mono (Nat.le_of_eq HSZ.out.symm))
      rw [hF]
      refine bodyPost_ret (v := .agg #[.slice A3 LQ c3, .bool false, .slice A4 LR c4, .bool false]) (by simp [results, Tryz.results125, go_sem, r0, r1, r2, r3]) rfl ?_
      have e1 := HS1.out
      have e2 := HS2.out
      simp only [bne_self_eq_false, Bool.false_and, Bool.true_and, show (true != false) = true from rfl, show (false != true) = true from rfl] at e1 e2
      exact ⟨_, rfl, ⟨_, _, _, _, rfl, ⟨_, by rw [HT1.out, ← e1], by rw [Int.natAbs_tdiv]; exact hd0⟩, ⟨_, by rw [HT2.out, ← e2], by rw [Int.natAbs_tmod]; exact hd1⟩⟩, hbf _ _ (by omega) (below_then' HBEL.out (HB2.out.alloc HB2.out.size _))⟩
    · go_enter Tryz.func125, Tryz.ntmps125
      go_wp2_with (go_at_call 182; (with_reducible refine (natDiv_c _ _ x.natAbs y.natAbs _ (HP.out.below HBEL.out) (HQ.out.below HBEL.out) HM.out.2.2 HM.out.1 HM.out.2.1).mono ?_); rintro e W2 ⟨q, r, rfl, hq, hr, fq, fr, hbz⟩; have HDQ := Lib.hid hq; have HDR := Lib.hid hr; have HFQ := Lib.hid fq; have HFR := Lib.hid fr; obtain ⟨A3, c3, hv, -, -, -⟩ := hq; rw [HLQ.out] at hv; subst hv; obtain ⟨A4, c4, hv, -, -, -⟩ := hr; rw [HLR.out] at hv; subst hv; have HB2 := Lib.hid hbz; have a00 := fun o => keep_cell (hbz.alloc hbz.size o) c00; have a01 := fun o => keep_cell (hbz.alloc hbz.size o) c01; have a10 := fun o => keep_cell (hbz.alloc hbz.size o) c10; have a11 := fun o => keep_cell (hbz.alloc hbz.size o) c11; have hx := fun o => heap_below HH2.out (hbz.alloc hbz.size o); have a20 := fun o => cell_of_heap (hx o) 0; have a21 := fun o => cell_of_heap (hx o) 1; have a22 := fun o => cell_of_heap (hx o) 2; have a23 := fun o => cell_of_heap (hx o) 3; have f20 := fun o => free_of_heap (hx o) 0; have f21 := fun o => free_of_heap (hx o) 1; have f22 := fun o => free_of_heap (hx o) 2; have f23 := fun o => free_of_heap (hx o) 3; simp at a20 a21 a22 a23; clear hbz fq fr c00 c01 c10 c11 hx)
      obtain ⟨F, hF, r0, r1, r2, r3, hd0, hd1, hbf⟩ := pr_set (decide (0 < LQ)) false (a20 _) (a21 _) (a22 _) (a23 _) (HDQ.out.below ((Below.refl _ _).alloc (Nat.le_refl _) (.cells #[.slice A3 LQ c3, .slice A4 LR c4] 186))) (HDR.out.below ((Below.refl _ _).alloc (Nat.le_refl _) _)) (HFQ.out.mono (Nat.le_of_eq HSZ.out.symm)) (HFR.out.mono (Nat.le_of_eq HSZ.out.symm))
      rw [hF]
      refine bodyPost_ret (v := .agg #[.slice A3 LQ c3, .bool (decide (0 < LQ)), .slice A4 LR c4, .bool false]) (by simp [results, Tryz.results125, go_sem, r0, r1, r2, r3]) rfl ?_
      have e1 := HS1.out
      have e2 := HS2.out
      simp only [bne_self_eq_false, Bool.false_and, Bool.true_and, show (true != false) = true from rfl, show (false != true) = true from rfl] at e1 e2
      exact ⟨_, rfl, ⟨_, _, _, _, rfl, ⟨_, by rw [HT1.out, ← e1], by rw [Int.natAbs_tdiv]; exact hd0⟩, ⟨_, by rw [HT2.out, ← e2], by rw [Int.natAbs_tmod]; exact hd1⟩⟩, hbf _ _ (by omega) (below_then' HBEL.out (HB2.out.alloc HB2.out.size _))⟩
  · cases by_
    · go_enter Tryz.func125, Tryz.ntmps125
      go_wp2_with (go_at_call 182; (with_reducible refine (natDiv_c _ _ x.natAbs y.natAbs _ (HP.out.below HBEL.out) (HQ.out.below HBEL.out) HM.out.2.2 HM.out.1 HM.out.2.1).mono ?_); rintro e W2 ⟨q, r, rfl, hq, hr, fq, fr, hbz⟩; have HDQ := Lib.hid hq; have HDR := Lib.hid hr; have HFQ := Lib.hid fq; have HFR := Lib.hid fr; obtain ⟨A3, c3, hv, -, -, -⟩ := hq; rw [HLQ.out] at hv; subst hv; obtain ⟨A4, c4, hv, -, -, -⟩ := hr; rw [HLR.out] at hv; subst hv; have HB2 := Lib.hid hbz; have a00 := fun o => keep_cell (hbz.alloc hbz.size o) c00; have a01 := fun o => keep_cell (hbz.alloc hbz.size o) c01; have a10 := fun o => keep_cell (hbz.alloc hbz.size o) c10; have a11 := fun o => keep_cell (hbz.alloc hbz.size o) c11; have hx := fun o => heap_below HH2.out (hbz.alloc hbz.size o); have a20 := fun o => cell_of_heap (hx o) 0; have a21 := fun o => cell_of_heap (hx o) 1; have a22 := fun o => cell_of_heap (hx o) 2; have a23 := fun o => cell_of_heap (hx o) 3; have f20 := fun o => free_of_heap (hx o) 0; have f21 := fun o => free_of_heap (hx o) 1; have f22 := fun o => free_of_heap (hx o) 2; have f23 := fun o => free_of_heap (hx o) 3; simp at a20 a21 a22 a23; clear hbz fq fr c00 c01 c10 c11 hx)
      obtain ⟨F, hF, r0, r1, r2, r3, hd0, hd1, hbf⟩ := pr_set (decide (0 < LQ)) (decide (0 < LR)) (a20 _) (a21 _) (a22 _) (a23 _) (HDQ.out.below ((Below.refl _ _).alloc (Nat.le_refl _) (.cells #[.slice A3 LQ c3, .slice A4 LR c4] 186))) (HDR.out.below ((Below.refl _ _).alloc (Nat.le_refl _) _)) (HFQ.out.mono (Nat.le_of_eq HSZ.out.symm)) (HFR.out.mono (Nat.le_of_eq HSZ.out.symm))
      rw [hF]
      refine bodyPost_ret (v := .agg #[.slice A3 LQ c3, .bool (decide (0 < LQ)), .slice A4 LR c4, .bool (decide (0 < LR))]) (by simp [results, Tryz.results125, go_sem, r0, r1, r2, r3]) rfl ?_
      have e1 := HS1.out
      have e2 := HS2.out
      simp only [bne_self_eq_false, Bool.false_and, Bool.true_and, show (true != false) = true from rfl, show (false != true) = true from rfl] at e1 e2
      exact ⟨_, rfl, ⟨_, _, _, _, rfl, ⟨_, by rw [HT1.out, ← e1], by rw [Int.natAbs_tdiv]; exact hd0⟩, ⟨_, by rw [HT2.out, ← e2], by rw [Int.natAbs_tmod]; exact hd1⟩⟩, hbf _ _ (by omega) (below_then' HBEL.out (HB2.out.alloc HB2.out.size _))⟩
    · go_enter Tryz.func125, Tryz.ntmps125
      go_wp2_with (go_at_call 182; (with_reducible refine (natDiv_c _ _ x.natAbs y.natAbs _ (HP.out.below HBEL.out) (HQ.out.below HBEL.out) HM.out.2.2 HM.out.1 HM.out.2.1).mono ?_); rintro e W2 ⟨q, r, rfl, hq, hr, fq, fr, hbz⟩; have HDQ := Lib.hid hq; have HDR := Lib.hid hr; have HFQ := Lib.hid fq; have HFR := Lib.hid fr; obtain ⟨A3, c3, hv, -, -, -⟩ := hq; rw [HLQ.out] at hv; subst hv; obtain ⟨A4, c4, hv, -, -, -⟩ := hr; rw [HLR.out] at hv; subst hv; have HB2 := Lib.hid hbz; have a00 := fun o => keep_cell (hbz.alloc hbz.size o) c00; have a01 := fun o => keep_cell (hbz.alloc hbz.size o) c01; have a10 := fun o => keep_cell (hbz.alloc hbz.size o) c10; have a11 := fun o => keep_cell (hbz.alloc hbz.size o) c11; have hx := fun o => heap_below HH2.out (hbz.alloc hbz.size o); have a20 := fun o => cell_of_heap (hx o) 0; have a21 := fun o => cell_of_heap (hx o) 1; have a22 := fun o => cell_of_heap (hx o) 2; have a23 := fun o => cell_of_heap (hx o) 3; have f20 := fun o => free_of_heap (hx o) 0; have f21 := fun o => free_of_heap (hx o) 1; have f22 := fun o => free_of_heap (hx o) 2; have f23 := fun o => free_of_heap (hx o) 3; simp at a20 a21 a22 a23; clear hbz fq fr c00 c01 c10 c11 hx)
      obtain ⟨F, hF, r0, r1, r2, r3, hd0, hd1, hbf⟩ := pr_set false (decide (0 < LR)) (a20 _) (a21 _) (a22 _) (a23 _) (HDQ.out.below ((Below.refl _ _).alloc (Nat.le_refl _) (.cells #[.slice A3 LQ c3, .slice A4 LR c4] 186))) (HDR.out.below ((Below.refl _ _).alloc (Nat.le_refl _) _)) (HFQ.out.mono (Nat.le_of_eq HSZ.out.symm)) (HFR.out.mono (Nat.le_of_eq HSZ.out.symm))
      rw [hF]
      refine bodyPost_ret (v := .agg #[.slice A3 LQ c3, .bool false, .slice A4 LR c4, .bool (decide (0 < LR))]) (by simp [results, Tryz.results125, go_sem, r0, r1, r2, r3]) rfl ?_
      have e1 := HS1.out
      have e2 := HS2.out
      simp only [bne_self_eq_false, Bool.false_and, Bool.true_and, show (true != false) = true from rfl, show (false != true) = true from rfl] at e1 e2
      exact ⟨_, rfl, ⟨_, _, _, _, rfl, ⟨_, by rw [HT1.out, ← e1], by rw [Int.natAbs_tdiv]; exact hd0⟩, ⟨_, by rw [HT2.out, ← e2], by rw [Int.natAbs_tmod]; exact hd1⟩⟩, hbf _ _ (by omega) (below_then' HBEL.out (HB2.out.alloc HB2.out.size _))⟩
end Go.Proofs.YtekbfommnmikbaaGreatDoor

namespace Go.Proofs.YtekbfommnmikbaaGreatDoor
set_option linter.unusedVariables false
set_option linter.unusedSimpArgs false
open Go.RowKit Go.Shelf
attribute [local go_sem ↓] Go.wp_at_zero Go.wp_at_succ

/-- All that lay in V lies there still, but for block g. -/
structure BX (V : World) (g : Nat) (w : World) : Prop where
  size_ : V.heap.size ≤ w.heap.size
  same : ∀ b, b < V.heap.size → b ≠ g → w.heap[b]? = V.heap[b]?
theorem BX.refl (V : World) (g : Nat) : BX V g V := ⟨Nat.le_refl _, fun _ _ _ => rfl⟩
theorem BX.call {V w w' : World} {g : Nat} (h : BX V g w) (hb : Below w.heap.size w w') : BX V g w' :=
  ⟨Nat.le_trans h.size_ hb.size, fun b h1 h2 => (hb.block b (Nat.lt_of_lt_of_le h1 h.size_)).trans (h.same b h1 h2)⟩
theorem BX.drew {V w : World} {g : Nat} (h : BX V g w) : BX V g w.drew := h.call (Below.refl _ _).drew
theorem BX.alloc {V w : World} {g : Nat} (h : BX V g w) (o : Obj) : BX V g (w.alloc o) := h.call ((Below.refl _ _).alloc (Nat.le_refl _) o)
theorem BX.set {V w : World} {g : Nat} (h : BX V g w) (i : Nat) (v : Value) : BX V g (w.setCell ⟨g, i, none⟩ v) :=
  ⟨by simpa using h.size_, fun b h1 h2 => (Below.heap_setCell _ _ _ _ h2).trans (h.same b h1 h2)⟩
/-- A box of four cells, none of them a number. -/
def Bx4 (w : World) (g : Nat) : Prop := ∃ t x0 x1 x2 x3, w.heap[g]? = some (.cells #[x0, x1, x2, x3] t (0, 0)) ∧ NoI x0 ∧ NoI x1 ∧ NoI x2 ∧ NoI x3
theorem Bx4.call {w w' : World} {g : Nat} (h : Bx4 w g) (hb : Below w.heap.size w w') : Bx4 w' g := by
  obtain ⟨t, x0, x1, x2, x3, h, hs⟩ := h
  exact ⟨t, x0, x1, x2, x3, heap_below h hb, hs⟩
theorem Bx4.drew {w : World} {g : Nat} (h : Bx4 w g) : Bx4 w.drew g := h.call (Below.refl _ _).drew
theorem Bx4.alloc {w : World} {g : Nat} (h : Bx4 w g) (o : Obj) : Bx4 (w.alloc o) g := h.call ((Below.refl _ _).alloc (Nat.le_refl _) o)
theorem Bx4.lt {w : World} {g : Nat} (h : Bx4 w g) : g < w.heap.size := by
  obtain ⟨t, x0, x1, x2, x3, h, hs⟩ := h
  exact (Array.getElem?_eq_some_iff.1 h).1
theorem Bx4.free {w : World} {g : Nat} (h : Bx4 w g) (i : Nat) : w.frozen? ⟨g, i, none⟩ = false := by
  obtain ⟨t, x0, x1, x2, x3, h, hs⟩ := h
  exact free_of_heap h i
theorem Bx4.cells {w : World} {g : Nat} (h : Bx4 w g) : ∃ x0 x1 x2 x3, w.cell? ⟨g, 0, none⟩ = some x0 ∧ w.cell? ⟨g, 1, none⟩ = some x1 ∧ w.cell? ⟨g, 2, none⟩ = some x2 ∧ w.cell? ⟨g, 3, none⟩ = some x3 := by
  obtain ⟨t, x0, x1, x2, x3, h, hs⟩ := h
  exact ⟨x0, x1, x2, x3, cell_of_heap h 0, cell_of_heap h 1, cell_of_heap h 2, cell_of_heap h 3⟩
theorem Bx4.set {w : World} {g : Nat} (h : Bx4 w g) (i : Nat) {v : Value} (hv : NoI v) : Bx4 (w.setCell ⟨g, i, none⟩ v) g := by
  obtain ⟨t, x0, x1, x2, x3, h, n0, n1, n2, n3⟩ := h
  have h1 := box_put h i v
  match i with
  | 0 => exact ⟨t, v, x1, x2, x3, by simpa using h1, hv, n1, n2, n3⟩
  | 1 => exact ⟨t, x0, v, x2, x3, by simpa using h1, n0, hv, n2, n3⟩
  | 2 => exact ⟨t, x0, x1, v, x3, by simpa using h1, n0, n1, hv, n3⟩
  | 3 => exact ⟨t, x0, x1, x2, v, by simpa using h1, n0, n1, n2, hv⟩
  | i + 4 => exact ⟨t, x0, x1, x2, x3, by rw [h1]; simp [Array.setIfInBounds], n0, n1, n2, n3⟩
end Go.Proofs.YtekbfommnmikbaaGreatDoor

namespace Go.Proofs.YtekbfommnmikbaaGreatDoor
set_option linter.unusedVariables false
set_option linter.unusedSimpArgs false
open Go.RowKit Go.Shelf

end Go.Proofs.YtekbfommnmikbaaGreatDoor

namespace Go.Proofs.YtekbfommnmikbaaGreatDoor
set_option linter.unusedVariables false
set_option linter.unusedSimpArgs false
open Go.RowKit Go.Shelf

/-- One step of a root's digit. -/
theorem root_fin {n R : Nat} (h1 : R * R ≤ n) (h2 : n < (R + 1) * (R + 1)) : root n = R := root_eq h1 h2
theorem root_top {n L k : Nat} (h : n < 10 ^ k) (hk : k ≤ 2 * L) : n < (0 + 10 ^ L) * (0 + 10 ^ L) := by
  rw [Nat.zero_add, ← Nat.pow_add]
  exact Nat.lt_of_lt_of_le h (Nat.pow_le_pow_right (by decide) (by omega))
theorem val_inc {l : List Int} {i : Nat} {d : Int} (hi : i < l.length) (hd : l[i]?.getD 0 = d) (x : Int) : val 10 (l.set i (d + x)) = val 10 l + (10 : Int) ^ i * x := by
  rw [val_set _ _ _ _ hi, List.getD_eq_getElem?_getD, hd]
  rw [show d + x - d = x by omega]
  rfl

set_option maxRecDepth 100000 in
set_option maxHeartbeats 4000000 in
theorem rroot_c (v1 : Value) (n : Nat) (w : World) (h1 : Dg 10 w v1 n) (hm : (dg 10 n).length ≤ 400000) :
    Calls Tryz.prog 128 #[v1] w (DgP 10 (root n) w) := by
  have HA0 := Lib.hid h1
  obtain ⟨A1, c1, rfl, hc1, _, hr1⟩ := h1
  obtain ⟨L, hL⟩ : ∃ L, (dg 10 n).length = L := ⟨_, rfl⟩
  rw [hL] at HA0 hc1 hm ⊢
  have HL := Lib.hid hL
  obtain ⟨M, hM⟩ : ∃ M, (L + 1) / 2 = M := ⟨_, rfl⟩
  have HM := Lib.hid hM
  have hM2 : L ≤ 2 * M := by omega
  have hM3 : M ≤ 200001 := by omega
  have hmk := make_nat M (M : Int) rfl (by omega)
  have hMi : ((L : Int) + 1) / 2 = (M : Int) := by omega
  have HTOP : Hid (n < (0 + 10 ^ M) * (0 + 10 ^ M)) := root_top (k := L) (by rw [← hL]; exact lt_pow_length (by decide) n) hM2
  clear hr1 hc1 hL hM
  go_enter Tryz.func128, Tryz.ntmps128
  go_wp2_with fail
  clear hmk hMi
  have hown0 := own_zeros w M (by omega)
  have hB0 := (Below.refl w.heap.size w).alloc (Nat.le_refl _) (.cells (madeCells #[.int .i64 0] M) 3)
  generalize w.alloc (.cells (madeCells #[.int .i64 0] M) 3) = w0 at *
  have HB0 := Lib.hid hB0
  have HO0 := Lib.hid hown0
  clear hB0 hown0
  go_loopg [4, 5] M (fun g iv tv wr => ∃ (lr : List Int) (R : Nat), iv = .int .i64 ((g : Int) - 1) ∧ g ≤ M ∧ Hid (wr.ownsRow w.heap.size 3 1 (.slice (some ⟨w.heap.size, 0, none⟩) M M) M (lr.map (Value.int .i64)))
      ∧ Hid (lr.length = M ∧ InR 10 lr ∧ (∀ j, j < g → lr[j]?.getD 0 = 0) ∧ val 10 lr = (R : Int) ∧ R * R ≤ n ∧ n < (R + 10 ^ g) * (R + 10 ^ g)) ∧ Hid (Below w.heap.size w wr))
  case atStart => exact ⟨List.replicate M 0, 0, rfl, Nat.le_refl _, HO0.out, ⟨by simp, InR.replicate (by decide) _, fun j _ => by rw [List.getElem?_replicate]; split <;> rfl, by simp [val_replicate], by omega, HTOP.out⟩, HB0.out⟩
  case round =>
    obtain ⟨lr, R, rfl, hg, HO, HV, HB⟩ := hrel
    by_cases hg0 : gk = 0
    · subst hg0
      obtain ⟨hll, hli, hlz, hlv, hr1, hr2⟩ := HV.out
      rw [Nat.pow_zero] at hr2
      have HRT := Lib.hid (root_fin hr1 hr2)
      obtain ⟨A, c, hve, hlc, hcm, hrow, hln⟩ := own_row HO.out
      obtain ⟨rfl, -, rfl⟩ := Value.slice.inj hve
      have HROW := Lib.hid hrow; have HIN := Lib.hid hli; have HVL := Lib.hid hlv; have HLL := Lib.hid hll
      have hcm' : M ≤ 9223372036854775807 := by omega
      have hlc' : lr.length ≤ M := hlc
      clear hll hli hlz hlv hr1 hr2 hve hlc hcm hrow hln
      go_wp2_with (go_at_call 160; rw [show (Value.slice (some ⟨w.heap.size, 0, none⟩) M M) = Value.slice (some ⟨w.heap.size, 0, none⟩) lr.length M from by rw [HLL.out]]; refine (trim_c _ M lr wr HROW.out hlc' hcm').mono ?_; intro e w1 hcut; obtain ⟨rfl, v, rfl, hdg, hblk⟩ := cut_dg (b := 10) (by decide) HROW.out hlc' hcm' HIN.out HVL.out hcut; have HDG := Lib.hid hdg; have HF9 : Hid (FromB w.heap.size v) := (fun k hk => by obtain ⟨a, ha, rfl⟩ := hblk k hk; cases ha; exact Nat.le_refl _); clear hdg hblk hcut)
      go_ret
      exact ⟨v, rfl, by rw [HRT.out]; exact HDG.out, HF9.out, HB.out⟩
    · obtain ⟨g, rfl⟩ : ∃ g, gk = g + 1 := ⟨gk - 1, by omega⟩
      rw [show (((g + 1 : Nat) : Int) - 1) = (g : Int) by omega]
      have hlt : g < M := by omega
      have j0 : (0 : Int) ≤ (g : Int) := by omega
      have j1 : (g : Int) < (M : Int) := by omega
      have HRV := HV.out.2.2.2.2.1
      go_wp2_with fail
      go_loopg [5] 9 (fun gd tv w3 => ∃ (lr2 : List Int) (d : Nat), d + gd = 9 ∧ Hid (w3.ownsRow w.heap.size 3 1 (.slice (some ⟨w.heap.size, 0, none⟩) M M) M (lr2.map (Value.int .i64)))
          ∧ Hid (lr2.length = M ∧ InR 10 lr2 ∧ (∀ j, j < g → lr2[j]?.getD 0 = 0) ∧ lr2[g]?.getD 0 = (d : Int) ∧ val 10 lr2 = ((R + d * 10 ^ g : Nat) : Int) ∧ (R + d * 10 ^ g) * (R + d * 10 ^ g) ≤ n) ∧ Hid (Below w.heap.size w w3))
      case atStart =>
        obtain ⟨hll, hli, hlz, hlv, hr1, hr2⟩ := HV.out
        exact ⟨lr, 0, rfl, HO.out, ⟨hll, hli, fun j hj => hlz j (by omega), by rw [hlz g (by omega)]; rfl, by rw [hlv]; simp, by simpa using hr1⟩, HB.out⟩
      case round =>
        obtain ⟨lr2, d, hd, HO2, HV2, HB2⟩ := hrel
        obtain ⟨hll, hli, hlz, hlg, hlv, hr1⟩ := HV2.out
        have hcg : wr.cell? ⟨w.heap.size, g, none⟩ = some (.int .i64 (d : Int)) := by rw [own_cell HO2.out g hlt hll, hlg]
        have hfg : wr.frozen? ⟨w.heap.size, g, none⟩ = false := HO2.out.frozenAt g
        have h10 : 10 ^ (g + 1) = 10 * 10 ^ g := by rw [Nat.pow_succ]; omega
        by_cases hgd : gk = 0
        · subst hgd
          obtain rfl : d = 9 := by omega
          clear hll hli hlz hlg hlv hr1 hd
          go_wp2_with fail
          go_roundg g
          case measure => omega
          case rel =>
            obtain ⟨hll, hli, hlz, hlg, hlv, hr1⟩ := HV2.out
            refine ⟨lr2, R + 9 * 10 ^ g, rfl, by omega, HO2.out, ⟨hll, hli, hlz, hlv, hr1, ?_⟩, HB2.out⟩
            have h2 := HV.out.2.2.2.2.2
            rw [h10] at h2
            rw [show R + 9 * 10 ^ g + 10 ^ g = R + 10 * 10 ^ g by omega]; exact h2
        · obtain ⟨gd, rfl⟩ : ∃ gd, gk = gd + 1 := ⟨gk - 1, by omega⟩
          have hd9 : d < 9 := by omega
          have h3 := store_own HO2.out g ((d : Int) + 1)
          have hv3 : val 10 (lr2.set g ((d : Int) + 1)) = ((R + (d + 1) * 10 ^ g : Nat) : Int) := by
            rw [val_inc (by omega) hlg, hlv]
            simp only [Int.natCast_add, Int.natCast_mul, Int.natCast_pow]
            rw [Int.add_mul, show ((1 : Nat) : Int) = 1 from rfl, show ((10 : Nat) : Int) = 10 from rfl]; omega
          obtain ⟨R3, hR3⟩ : ∃ R3, R + (d + 1) * 10 ^ g = R3 := ⟨_, rfl⟩
          rw [hR3] at hv3
          have hi3 : InR 10 (lr2.set g ((d : Int) + 1)) := hli.set _ (by omega) (show (d : Int) + 1 < 10 from by omega)
          have hl3 : (lr2.set g ((d : Int) + 1)).length = M := by simpa using hll
          have hz3 : ∀ j, j < g → (lr2.set g ((d : Int) + 1))[j]?.getD 0 = 0 := fun j hj => by rw [List.getElem?_set_ne (by omega)]; exact hlz j hj
          have hg3 : (lr2.set g ((d : Int) + 1))[g]?.getD 0 = (d : Int) + 1 := by rw [List.getElem?_set_self (by omega)]; rfl
          have HLR : Hid ((dg 10 R3).length ≤ M) := (dg_length_le (by decide) _ _).2 (by
            have h := val_lt hi3
            rw [hv3, hl3] at h
            exact_mod_cast h)
          have hb3 := HB2.out.setCell (p := ⟨w.heap.size, g, none⟩) (Nat.le_refl _) (.int .i64 ((d : Int) + 1))
          have HR3 := Lib.hid hR3
          have HD := Lib.hid hd
          have HV3 := Lib.hid (And.intro hl3 (And.intro hi3 (And.intro hz3 (And.intro hg3 hv3))))
          have HO3 := Lib.hid h3; have HB3 := Lib.hid hb3
          have HLG := Lib.hid hlg; have HLV := Lib.hid hlv; have HLL := Lib.hid hll; have HR1 := Lib.hid hr1; have HLI := Lib.hid hli; have HLZ := Lib.hid hlz; have H10 := Lib.hid h10
          clear hll hli hlz hlg hlv hr1 h3 hv3 hR3 hi3 hl3 hz3 hg3 hb3 hd h10 HRV
          go_upto_region 7 with fail
          obtain ⟨W3, hW3⟩ : ∃ W3, wr.setCell ⟨w.heap.size, g, none⟩ (.int .i64 ((d : Int) + 1)) = W3 := ⟨_, rfl⟩
          rw [hW3]
          have HO3 : Hid (W3.ownsRow w.heap.size 3 1 (.slice (some ⟨w.heap.size, 0, none⟩) M M) M ((lr2.set g ((d : Int) + 1)).map (Value.int .i64))) := by show W3.ownsRow _ _ _ _ _ _; rw [← hW3]; exact HO3.out
          have HB3 : Hid (Below w.heap.size w W3) := by show Below _ _ W3; rw [← hW3]; exact HB3.out
          clear hW3 hcg hfg
          obtain ⟨l3, hl3e⟩ : ∃ l3, lr2.set g ((d : Int) + 1) = l3 := ⟨_, rfl⟩
          have HL3E := Lib.hid hl3e
          have HO3' : Hid (W3.ownsRow w.heap.size 3 1 (.slice (some ⟨w.heap.size, 0, none⟩) M M) M (l3.map (Value.int .i64))) := by show W3.ownsRow _ _ _ _ _ _; rw [← hl3e]; exact HO3.out
          have HV3' : Hid (l3.length = M ∧ InR 10 l3 ∧ (∀ j, j < g → l3[j]?.getD 0 = 0) ∧ l3[g]?.getD 0 = (d : Int) + 1 ∧ val 10 l3 = (R3 : Int)) := by show _ ∧ _; rw [← hl3e]; exact HV3.out
          clear hl3e HO3 HV3
          obtain ⟨A', c', hve, -, -, hrow, -⟩ := own_row HO3'.out
          obtain ⟨rfl, -, -⟩ := Value.slice.inj hve
          have HROW := Lib.hid (hrow.alloc (.cells #[] 3))
          have hsz : w.heap.size < W3.heap.size := (HO3'.out.lt _ rfl).2
          clear hve hrow
          have HLN : Hid ((dg 10 n).length ≤ 1000000) := by show _ ≤ _; rw [HL.out]; omega
          have HLR1 : Hid ((dg 10 R3).length ≤ 1000000) := by have := HLR.out; show _ ≤ _; omega
          have HLR2 : Hid ((dg 10 (R3 * R3)).length ≤ 1000000) := by
            have h := HLR.out
            refine Nat.le_trans ((dg_length_le (b := 10) (by decide) (R3 * R3) (M + M)).2 ?_) (by omega)
            rw [Nat.pow_add]
            have h2 := (dg_length_le (b := 10) (by decide) _ _).1 h
            exact Nat.mul_lt_mul'' h2 h2
          obtain ⟨s, hsn⟩ : ∃ s, sgn (((R3 * R3 : Nat) : Int) - (n : Int)) = s := ⟨_, rfl⟩
          have HSN := Lib.hid hsn
          by_cases hle : R3 * R3 ≤ n
          · have hs0 : ¬ 0 < s := by
              rw [← hsn]; intro h
              unfold sgn at h
              split at h
              · omega
              · split at h <;> omega
            have HLE := Lib.hid hle
            clear hsn hle
            go_wp2_with (first
              | (at_builtin; refine append_nat _ rfl _ _ rfl W3.heap.size _ 0 [] rfl (World.ownsRow_lit (e := 3) (size := 1) W3 #[] 0 (Nat.le_refl _) (by decide) (by simp)) (some ⟨w.heap.size, 0, none⟩) M l3 (by rw [HV3'.out.1]; rfl) HROW.out (by rw [HV3'.out.1]; omega) (by simp) ?_; intro v4 w1 hown1 hgrow1; have HBW : Hid (Below W3.heap.size W3 w1) := ((Below.refl _ _).alloc (Nat.le_refl _) _).grown hgrow1 (by simp) (fun k hk => by cases hk; exact Nat.le_refl _); obtain ⟨A4, c4, rfl, hlc4, hcm4, hrow4, hln4⟩ := own_row hown1; have HF4 := Lib.hid (own_from hown1); have HROW4 := Lib.hid hrow4; have HLC4 := Lib.hid hlc4; have HCM4 := Lib.hid (show c4 ≤ 9223372036854775807 from by unfold maxLen at hcm4; omega); clear hown1 hgrow1 hrow4 hlc4 hcm4 hln4)
              | (go_at_call 160; refine (trim_c A4 c4 _ w1 HROW4.out HLC4.out HCM4.out).mono ?_; intro e w' hcut; obtain ⟨rfl, v5, rfl, hdg, hblk⟩ := cut_dg (b := 10) (by decide) HROW4.out HLC4.out HCM4.out (show InR 10 ([] ++ l3) from HV3'.out.2.1) (show val 10 ([] ++ l3) = (R3 : Int) from HV3'.out.2.2.2.2) hcut; have HDG := Lib.hid hdg; clear hdg hblk hcut)
              | (go_at_call 181; (with_reducible refine (natMul_c _ _ R3 R3 _ HDG.out HDG.out HLR1.out HLR1.out).mono ?_); rintro e W5 ⟨u, rfl, hu, hfu, hbz⟩; have HU := Lib.hid hu; have HBM := Lib.hid hbz; clear hu hfu hbz)
              | (go_at_call 183; (with_reducible refine (natCmp_c _ _ (R3 * R3) n _ HU.out (HA0.out.below (below_then' (below_then HB3.out HBW.out (by omega)) HBM.out)) HLR2.out HLN.out).mono ?_); rintro e W6 ⟨he, hbz⟩; rw [HSN.out] at he; subst he; have HB6 : Hid (Below W3.heap.size W3 W6) := Lib.hid (below_then' (below_then' HBW.out HBM.out) hbz); clear hbz; have HO6 := Lib.hid (own_below HO3'.out HB6.out); have hc6 : W6.cell? ⟨w.heap.size, g, none⟩ = some (.int .i64 ((d : Int) + 1)) := (by rw [own_cell HO6.out g hlt HV3'.out.1, HV3'.out.2.2.2.1]); have hf6 : W6.frozen? ⟨w.heap.size, g, none⟩ = false := HO6.out.frozenAt g))
            go_roundg gd
            case measure => omega
            case rel =>
              obtain ⟨v1, v2, v3, v4, v5⟩ := HV3'.out
              refine ⟨l3, d + 1, by have := HD.out; omega, HO6.out, ⟨v1, v2, v3, v4, by rw [v5, HR3.out], by rw [HR3.out]; exact HLE.out⟩, below_then HB3.out HB6.out (by omega)⟩
          · have hs0 : 0 < s := by rw [← hsn, sgn_gt (by omega)]; decide
            have HLE := Lib.hid hle
            clear hsn hle
            go_wp2_with (first
              | (at_builtin; refine append_nat _ rfl _ _ rfl W3.heap.size _ 0 [] rfl (World.ownsRow_lit (e := 3) (size := 1) W3 #[] 0 (Nat.le_refl _) (by decide) (by simp)) (some ⟨w.heap.size, 0, none⟩) M l3 (by rw [HV3'.out.1]; rfl) HROW.out (by rw [HV3'.out.1]; omega) (by simp) ?_; intro v4 w1 hown1 hgrow1; have HBW : Hid (Below W3.heap.size W3 w1) := ((Below.refl _ _).alloc (Nat.le_refl _) _).grown hgrow1 (by simp) (fun k hk => by cases hk; exact Nat.le_refl _); obtain ⟨A4, c4, rfl, hlc4, hcm4, hrow4, hln4⟩ := own_row hown1; have HF4 := Lib.hid (own_from hown1); have HROW4 := Lib.hid hrow4; have HLC4 := Lib.hid hlc4; have HCM4 := Lib.hid (show c4 ≤ 9223372036854775807 from by unfold maxLen at hcm4; omega); clear hown1 hgrow1 hrow4 hlc4 hcm4 hln4)
              | (go_at_call 160; refine (trim_c A4 c4 _ w1 HROW4.out HLC4.out HCM4.out).mono ?_; intro e w' hcut; obtain ⟨rfl, v5, rfl, hdg, hblk⟩ := cut_dg (b := 10) (by decide) HROW4.out HLC4.out HCM4.out (show InR 10 ([] ++ l3) from HV3'.out.2.1) (show val 10 ([] ++ l3) = (R3 : Int) from HV3'.out.2.2.2.2) hcut; have HDG := Lib.hid hdg; clear hdg hblk hcut)
              | (go_at_call 181; (with_reducible refine (natMul_c _ _ R3 R3 _ HDG.out HDG.out HLR1.out HLR1.out).mono ?_); rintro e W5 ⟨u, rfl, hu, hfu, hbz⟩; have HU := Lib.hid hu; have HBM := Lib.hid hbz; clear hu hfu hbz)
              | (go_at_call 183; (with_reducible refine (natCmp_c _ _ (R3 * R3) n _ HU.out (HA0.out.below (below_then' (below_then HB3.out HBW.out (by omega)) HBM.out)) HLR2.out HLN.out).mono ?_); rintro e W6 ⟨he, hbz⟩; rw [HSN.out] at he; subst he; have HB6 : Hid (Below W3.heap.size W3 W6) := Lib.hid (below_then' (below_then' HBW.out HBM.out) hbz); clear hbz; have HO6 := Lib.hid (own_below HO3'.out HB6.out); have hc6 : W6.cell? ⟨w.heap.size, g, none⟩ = some (.int .i64 ((d : Int) + 1)) := (by rw [own_cell HO6.out g hlt HV3'.out.1, HV3'.out.2.2.2.1]); have hf6 : W6.frozen? ⟨w.heap.size, g, none⟩ = false := HO6.out.frozenAt g))
            go_roundg g
            case measure => omega
            case rel =>
              have e3 : l3.set g (d : Int) = lr2 := by
                rw [← HL3E.out, List.set_set]
                have h := HLG.out
                rw [List.getElem?_eq_getElem (by rw [HLL.out]; exact hlt)] at h
                have h' : lr2[g]'(by rw [HLL.out]; exact hlt) = (d : Int) := h
                rw [← h', List.set_getElem_self]
              have h1 := store_own HO6.out g (d : Int)
              rw [e3] at h1
              refine ⟨lr2, R + d * 10 ^ g, rfl, by omega, h1, ⟨HLL.out, HLI.out, HLZ.out, HLV.out, HR1.out, ?_⟩, (below_then HB3.out HB6.out (by omega)).setCell (p := ⟨w.heap.size, g, none⟩) (Nat.le_refl _) _⟩
              have h2 := HLE.out
              rw [← HR3.out, show R + (d + 1) * 10 ^ g = R + d * 10 ^ g + 10 ^ g by rw [Nat.succ_mul]; omega] at h2
              exact Nat.lt_of_not_le h2
end Go.Proofs.YtekbfommnmikbaaGreatDoor
/- The reference of layer 2: Valid; the statements' helpers. -/
namespace Go.Proofs.YtekbfommnmikbaaGreatDoor
set_option linter.unusedVariables false
set_option linter.unusedSimpArgs false
open Go.RowKit Go.Shelf Go.Proofs
attribute [local go_sem ↓] Go.wp_at_zero Go.wp_at_succ

theorem numL_int {m : Int} (h0 : -9223372036854775808 ≤ m) (h1 : m ≤ 9223372036854775807) : NumL (ByteArray.mk (Lib.itoa m).toArray).data.toList m := by
  refine ⟨by simp, ?_⟩
  have h : m.natAbs < 10 ^ 19 := by omega
  exact Nat.lt_of_lt_of_le h (by decide)
theorem len12 (m : Nat) : (dg 10 m).length = 12 ↔ 100000000000 ≤ m ∧ m < 1000000000000 := by
  have h1 := dg_length_le (b := 10) (by decide) m 12
  have h2 := dg_length_lt (b := 10) (by decide) m 11
  omega

set_option maxRecDepth 100000 in
set_option maxHeartbeats 4000000 in
theorem svalid_c (m e : Int) (w : World) (h0 : -9223372036854775808 ≤ m) (h1 : m ≤ 9223372036854775807) :
    Calls Tryz.prog 31 #[.agg #[.int .i64 m, .int .i64 e]] w fun en w' => en = .returned (.bool (decide (RV m.natAbs e))) ∧ Below w.heap.size w w' := by
  obtain ⟨b, hb⟩ : ∃ b, decide (RV m.natAbs e) = b := ⟨_, rfl⟩
  rw [hb]
  obtain ⟨W, hW, k0⟩ : ∃ W, w.alloc (.cells #[.int .i64 m, .int .i64 e] 23) = W ∧ W.heap[w.heap.size]? = some (.cells #[.int .i64 m, .int .i64 e] 23 (0, 0)) := ⟨_, rfl, heap_alloc_new _ _⟩
  have hbel : Below w.heap.size w W := by rw [← hW]; exact (Below.refl _ _).alloc (Nat.le_refl _) _
  have HBEL := Lib.hid hbel
  obtain ⟨c0, c1⟩ := two_cells k0
  clear k0 hbel
  by_cases hm : m = 0
  · subst hm
    have hbe : b = (e == 0) := by
      rw [← hb, Bool.eq_iff_iff, decide_eq_true_iff, beq_iff_eq]
      unfold RV
      omega
    subst hbe
    clear hb
    go_enter Tryz.func31, Tryz.ntmps31
    go_wp2_with fail
    go_ret
    exact ⟨rfl, HBEL.out⟩
  obtain ⟨L, hL⟩ : ∃ L, (dg 10 m.natAbs).length = L := ⟨_, rfl⟩
  have h12 := len12 m.natAbs
  rw [hL] at h12
  have hbv : b = decide (L = 12 ∧ -111 ≤ e ∧ e ≤ 88) := by
    rw [← hb]
    apply decide_eq_decide.2
    rw [h12]
    unfold RV
    omega
  have HL := Lib.hid hL
  have HOF := Lib.hid (fun w' => rof_c _ m w' (numL_int h0 h1))
  have HFI := Lib.hid (fun w' => rfromint_c m w' h0 h1)
  clear hb hL h12
  by_cases k1 : L = 12
  · by_cases k2 : -111 ≤ e
    · by_cases k3 : e ≤ 88
      · obtain rfl : b = true := by rw [hbv]; exact decide_eq_true ⟨k1, k2, k3⟩
        subst k1
        clear hbv
        go_enter Tryz.func31, Tryz.ntmps31
        go_wp2_with (first
          | (go_at_call 94; (with_reducible refine (HFI.out _).mono ?_); rintro en w2 ⟨rfl, hbz⟩; have c0 := keep_cell hbz c0; have c1 := keep_cell hbz c1; have HB := Lib.hid hbz; clear hbz)
          | (go_at_call 93; (with_reducible refine (HOF.out _).mono ?_); rintro en w3 ⟨v, rfl, ⟨p, rfl, A, c, rfl, -⟩, hbz⟩; rw [HL.out]; have c0 := keep_cell hbz c0; have c1 := keep_cell hbz c1; have A0 := fun o => keep_cell ((Below.refl _ _).alloc (Nat.le_refl _) o) c0; have A1 := fun o => keep_cell ((Below.refl _ _).alloc (Nat.le_refl _) o) c1; have HB := Lib.hid (belowT HB.out hbz); clear hbz))
        go_ret
        exact ⟨rfl, belowT HBEL.out (belowA HB.out _)⟩
      · obtain rfl : b = false := by rw [hbv]; apply decide_eq_false; omega
        subst k1
        clear hbv
        go_enter Tryz.func31, Tryz.ntmps31
        go_wp2_with (first
          | (go_at_call 94; (with_reducible refine (HFI.out _).mono ?_); rintro en w2 ⟨rfl, hbz⟩; have c0 := keep_cell hbz c0; have c1 := keep_cell hbz c1; have HB := Lib.hid hbz; clear hbz)
          | (go_at_call 93; (with_reducible refine (HOF.out _).mono ?_); rintro en w3 ⟨v, rfl, ⟨p, rfl, A, c, rfl, -⟩, hbz⟩; rw [HL.out]; have c0 := keep_cell hbz c0; have c1 := keep_cell hbz c1; have A0 := fun o => keep_cell ((Below.refl _ _).alloc (Nat.le_refl _) o) c0; have A1 := fun o => keep_cell ((Below.refl _ _).alloc (Nat.le_refl _) o) c1; have HB := Lib.hid (belowT HB.out hbz); clear hbz))
        go_ret
        refine ⟨?_, belowT HBEL.out (belowA HB.out _)⟩
        show Ending.returned (Value.bool (decide (e ≤ 88))) = _
        rw [decide_eq_false (by omega : ¬ e ≤ 88)]
    · obtain rfl : b = false := by rw [hbv]; apply decide_eq_false; omega
      subst k1
      clear hbv
      go_enter Tryz.func31, Tryz.ntmps31
      go_wp2_with (first
        | (go_at_call 94; (with_reducible refine (HFI.out _).mono ?_); rintro en w2 ⟨rfl, hbz⟩; have c0 := keep_cell hbz c0; have c1 := keep_cell hbz c1; have HB := Lib.hid hbz; clear hbz)
        | (go_at_call 93; (with_reducible refine (HOF.out _).mono ?_); rintro en w3 ⟨v, rfl, ⟨p, rfl, A, c, rfl, -⟩, hbz⟩; rw [HL.out]; have c0 := keep_cell hbz c0; have c1 := keep_cell hbz c1; have A0 := fun o => keep_cell ((Below.refl _ _).alloc (Nat.le_refl _) o) c0; have A1 := fun o => keep_cell ((Below.refl _ _).alloc (Nat.le_refl _) o) c1; have HB := Lib.hid (belowT HB.out hbz); clear hbz))
      go_ret
      exact ⟨rfl, belowT HBEL.out (belowA HB.out _)⟩
  · obtain rfl : b = false := by rw [hbv]; apply decide_eq_false; omega
    have k9 : ((L : Int) == 12) = false := by rw [beq_eq_false_iff_ne]; omega
    clear hbv
    go_enter Tryz.func31, Tryz.ntmps31
    go_wp2_with (first
      | (go_at_call 94; (with_reducible refine (HFI.out _).mono ?_); rintro en w2 ⟨rfl, hbz⟩; have c0 := keep_cell hbz c0; have c1 := keep_cell hbz c1; have HB := Lib.hid hbz; clear hbz)
      | (go_at_call 93; (with_reducible refine (HOF.out _).mono ?_); rintro en w3 ⟨v, rfl, ⟨p, rfl, A, c, rfl, -⟩, hbz⟩; rw [HL.out]; have c0 := keep_cell hbz c0; have c1 := keep_cell hbz c1; have A0 := fun o => keep_cell ((Below.refl _ _).alloc (Nat.le_refl _) o) c0; have A1 := fun o => keep_cell ((Below.refl _ _).alloc (Nat.le_refl _) o) c1; have HB := Lib.hid (belowT HB.out hbz); clear hbz))
    go_ret
    exact ⟨rfl, belowT HBEL.out (belowA HB.out _)⟩

/-- What arg returns. -/
def argV (p q : Prop) [Decidable p] [Decidable q] : Int := if p ∧ q then 0 else 1
set_option maxRecDepth 100000 in
set_option maxHeartbeats 2000000 in
theorem arg_c (xm xe ym ye : Int) (w : World) (hx0 : -9223372036854775808 ≤ xm) (hx1 : xm ≤ 9223372036854775807) (hy0 : -9223372036854775808 ≤ ym) (hy1 : ym ≤ 9223372036854775807) :
    Calls Tryz.prog 20 #[.agg #[.int .i64 xm, .int .i64 xe], .agg #[.int .i64 ym, .int .i64 ye]] w fun en w' => en = .returned (.int .i64 (argV (RV xm.natAbs xe) (RV ym.natAbs ye))) ∧ Below w.heap.size w w' := by
  obtain ⟨W, hW, k0, k1, hbel, hsz⟩ := bx2h w #[.int .i64 xm, .int .i64 xe] #[.int .i64 ym, .int .i64 ye] 23 23
  obtain ⟨c0, c1⟩ := two_cells k0
  obtain ⟨z0, z1⟩ := two_cells k1
  have HBEL := Lib.hid hbel
  have HX := Lib.hid (fun w' => svalid_c xm xe w' hx0 hx1)
  have HY := Lib.hid (fun w' => svalid_c ym ye w' hy0 hy1)
  unfold argV
  clear k0 k1 hbel hsz hx0 hx1 hy0 hy1
  by_cases hx : RV xm.natAbs xe
  · rw [show decide (RV xm.natAbs xe) = true from decide_eq_true hx] at HX
    by_cases hy : RV ym.natAbs ye
    · rw [show decide (RV ym.natAbs ye) = true from decide_eq_true hy] at HY
      rw [if_pos ⟨hx, hy⟩]
      clear hx hy
      go_enter Tryz.func20, Tryz.ntmps20
      go_wp2_with (first
        | (go_at_call 31; (with_reducible refine (HX.out _).mono ?_); rintro en w2 ⟨rfl, hbz⟩; have z0 := keep_cell hbz z0; have z1 := keep_cell hbz z1; have HB := Lib.hid hbz; clear hbz)
        | (go_at_call 31; (with_reducible refine (HY.out _).mono ?_); rintro en w3 ⟨rfl, hbz⟩; have HB := Lib.hid (belowT HB.out hbz); clear hbz))
      go_ret
      exact ⟨rfl, belowT HBEL.out HB.out⟩
    · rw [show decide (RV ym.natAbs ye) = false from decide_eq_false hy] at HY
      rw [if_neg fun h => hy h.2]
      clear hx hy
      go_enter Tryz.func20, Tryz.ntmps20
      go_wp2_with (first
        | (go_at_call 31; (with_reducible refine (HX.out _).mono ?_); rintro en w2 ⟨rfl, hbz⟩; have z0 := keep_cell hbz z0; have z1 := keep_cell hbz z1; have HB := Lib.hid hbz; clear hbz)
        | (go_at_call 31; (with_reducible refine (HY.out _).mono ?_); rintro en w3 ⟨rfl, hbz⟩; have HB := Lib.hid (belowT HB.out hbz); clear hbz))
      go_ret
      exact ⟨rfl, belowT HBEL.out HB.out⟩
  · rw [show decide (RV xm.natAbs xe) = false from decide_eq_false hx] at HX
    rw [if_neg fun h => hx h.1]
    clear hx
    go_enter Tryz.func20, Tryz.ntmps20
    go_wp2_with (go_at_call 31; (with_reducible refine (HX.out _).mono ?_); rintro en w2 ⟨rfl, hbz⟩; have HB := Lib.hid hbz; clear hbz)
    go_ret
    exact ⟨rfl, belowT HBEL.out HB.out⟩

/-- A result is what is wanted. -/
def Agr (m e er bad wm we : Int) (ok : Bool) : Prop := (bad ≠ 0 ∧ er = bad ∧ m = 0 ∧ e = 0) ∨ (bad = 0 ∧ ok = false ∧ er = 3 ∧ m = 0 ∧ e = 0) ∨ (bad = 0 ∧ ok = true ∧ er = 0 ∧ m = wm ∧ e = we)
set_option maxRecDepth 100000 in
set_option maxHeartbeats 2000000 in
theorem agrees_c (m e er bad wm we : Int) (ok : Bool) (w : World) (h : Agr m e er bad wm we ok) :
    Calls Tryz.prog 21 #[.agg #[.int .i64 m, .int .i64 e], .int .i64 er, .int .i64 bad, .agg #[.int .i64 wm, .int .i64 we, .bool ok]] w fun en w' => en = .returned (.bool true) ∧ Below w.heap.size w w' := by
  obtain ⟨W, hW, k0, k1, hbel, hsz⟩ := bx2h w #[.int .i64 m, .int .i64 e] #[.int .i64 wm, .int .i64 we, .bool ok] 23 30
  obtain ⟨c0, c1⟩ := two_cells k0
  obtain ⟨d0, d1, d2, f0, f1, f2⟩ := (box3 k1).out W (Below.refl _ _)
  have HBEL := Lib.hid hbel
  clear k0 k1 hbel hsz
  rcases h with ⟨h1, rfl, rfl, rfl⟩ | ⟨rfl, rfl, rfl, rfl, rfl⟩ | ⟨rfl, rfl, rfl, rfl, rfl⟩
  · have hne : (er != 0) = true := by simp [h1]
    go_enter Tryz.func21, Tryz.ntmps21
    go_wp2_with fail
    go_ret
    exact ⟨rfl, HBEL.out⟩
  · go_enter Tryz.func21, Tryz.ntmps21
    go_wp2_with fail
    go_ret
    exact ⟨rfl, HBEL.out⟩
  · go_enter Tryz.func21, Tryz.ntmps21
    go_wp2_with fail
    go_ret
    refine ⟨?_, HBEL.out⟩
    simp

set_option maxRecDepth 100000 in
set_option maxHeartbeats 2000000 in
theorem none_bad (bad : Int) (F : Value) (w : World) (h : bad ≠ 0) :
    Calls Tryz.prog 22 #[.int .i64 bad, F] w fun en w' => en = .returned (.agg #[.int .i64 0, .int .i64 0, .bool false]) ∧ Below w.heap.size w w' := by
  obtain ⟨W, hW, k0⟩ : ∃ W, w.alloc (.cells #[.int .i64 0, .int .i64 0, .bool false] 30) = W ∧ W.heap[w.heap.size]? = some (.cells #[.int .i64 0, .int .i64 0, .bool false] 30 (0, 0)) := ⟨_, rfl, heap_alloc_new _ _⟩
  have hbel : Below w.heap.size w W := by rw [← hW]; exact (Below.refl _ _).alloc (Nat.le_refl _) _
  obtain ⟨d0, d1, d2, f0, f1, f2⟩ := (box3 k0).out W (Below.refl _ _)
  have FIN := fin3 k0 (Nat.le_refl _) hbel
  have hne : (bad != 0) = true := by simp [h]
  clear k0 hbel h
  go_enter Tryz.func22, Tryz.ntmps22
  go_wp2_with fail
  obtain ⟨r0, r1, r2, hbb⟩ := FIN.out W (.int .i64 0) (.int .i64 0) (.bool false) (Below.refl _ _)
  refine bodyPost_ret (v := .agg #[.int .i64 0, .int .i64 0, .bool false]) (by simp [results, Tryz.results22, go_sem, r0, r1, r2]) rfl ?_
  exact ⟨rfl, hbb⟩
set_option maxRecDepth 100000 in
set_option maxHeartbeats 2000000 in
theorem none_ok (f : Nat) (caps : Array Value) (a b : Int) (k : Bool) (w : World) (e1 : ∀ args w, (callFunc f args).run Tryz.prog w = .ok (.enter f args) w)
    (h : ∀ w', Below w.heap.size w w' → Calls Tryz.prog f caps w' fun en w2 => en = .returned (.agg #[.int .i64 a, .int .i64 b, .bool k]) ∧ Below w'.heap.size w' w2) :
    Calls Tryz.prog 22 #[.int .i64 0, .func (.func f) #[] caps] w fun en w' => en = .returned (.agg #[.int .i64 a, .int .i64 b, .bool k]) ∧ Below w.heap.size w w' := by
  obtain ⟨W, hW, k0⟩ : ∃ W, w.alloc (.cells #[.int .i64 0, .int .i64 0, .bool false] 30) = W ∧ W.heap[w.heap.size]? = some (.cells #[.int .i64 0, .int .i64 0, .bool false] 30 (0, 0)) := ⟨_, rfl, heap_alloc_new _ _⟩
  have hbel : Below w.heap.size w W := by rw [← hW]; exact (Below.refl _ _).alloc (Nat.le_refl _) _
  have BOX := box3 k0
  have FIN := fin3 k0 (Nat.le_refl _) hbel
  have H := Lib.hid (h W hbel)
  clear k0 hbel h
  go_enter Tryz.func22, Tryz.ntmps22
  go_wp2_with (go_at_fn f; (try simp only [List.nil_append, Array.empty_append]); (with_reducible refine H.out.mono ?_); rintro en w2 ⟨rfl, hbz⟩; have HB := Lib.hid hbz; clear hbz; obtain ⟨d0, d1, d2, f0, f1, f2⟩ := BOX.out _ HB.out)
  obtain ⟨r0, r1, r2, hbb⟩ := FIN.out _ (.int .i64 a) (.int .i64 b) (.bool k) HB.out
  refine bodyPost_ret (v := .agg #[.int .i64 a, .int .i64 b, .bool k]) (by simp [results, Tryz.results22, go_sem, r0, r1, r2]) rfl ?_
  exact ⟨rfl, hbb⟩
end Go.Proofs.YtekbfommnmikbaaGreatDoor
