/- Package real: the digits taken of an iterator. -/
import Derived.Test.YtekbfommnmikbaaGreatDoorRealJ
import Derived.RegionIn
import Derived.BigRegionIn
namespace Go.Proofs.YtekbfommnmikbaaGreatDoor
set_option linter.unusedVariables false
set_option linter.unusedSimpArgs false
open Go.RowKit Go.Shelf
attribute [local go_sem] Oper.semAt_some

/-- The first k digits of an iterator. -/
def firsts (item : Nat → Int × Bool) (k : Nat) : List Int := (List.range k).map fun i => (item i).1
theorem firsts_length (item : Nat → Int × Bool) (k : Nat) : (firsts item k).length = k := by simp [firsts]
theorem firsts_succ (item : Nat → Int × Bool) (k : Nat) : firsts item (k + 1) = firsts item k ++ [(item k).1] := by simp [firsts, List.range_succ]
/-- What was left behind the last one. -/
def lastMore (item : Nat → Int × Bool) : Nat → Bool
  | 0 => false
  | k + 1 => (item k).2

theorem Kb.grown {mb : Nat} {w A B : World} {row : Option Nat} (h : Kb mb w A) (hg : A.grownBy B row) (hr : ∀ r, row = some r → w.heap.size ≤ r) : Kb mb w B :=
  ⟨hg.os.trans h.os, hg.tape.trans h.tape, hg.output.trans h.output, Nat.le_trans h.size hg.size, fun g hg2 hB => (hg.block g (Nat.lt_of_lt_of_le hg2 h.size) (fun e => by have := hr g e.symm; omega)).trans (h.block g hg2 hB)⟩
theorem Kb.setF {mb : Nat} {w A : World} (h : Kb mb w A) {B i : Nat} (hB : w.heap.size ≤ B) (v : Value) : Kb mb w (A.setCell ⟨B, i, none⟩ v) := h.trans' ((Below.refl w.heap.size A).setCell (p := ⟨B, i, none⟩) hB v) (Nat.le_refl _)

/-- What holds after k rounds. -/
structure TK (item : Nat → Int × Bool) (many mb b0 base : Nat) (w : World) (k : Nat) (V : World) : Prop where
  box : ∃ v, V.heap[b0 + 1]? = some (.cells #[v] 93 (0, 0)) ∧ V.ownsRow base 5 1 v k ((firsts item k).map (Value.int .u8))
  more : V.heap[b0 + 1 + 1]? = some (.cells #[.bool (lastMore item k)] 4 (0, 0))
  many : V.heap[b0]? = some (.cells #[.int .i64 (many : Int)] 3 (0, 0))
  kept : Kb mb w V
  size : base ≤ V.heap.size
theorem TK.own (item : Nat → Int × Bool) (many mb b0 base : Nat) (w : World) (hb : b0 + 3 ≤ base) (hw : w.heap.size ≤ base) : OwnFrom base (fun k V => TK item many mb b0 base w k V) := fun k X Y row h hg hr => by
  have hc : ∀ r, row = some r → ∃ o : Obj, X.heap[r]? = some o ∧ o.isCells = false := fun r e => (hr r e).2
  obtain ⟨v, h1, h2⟩ := h.box
  exact ⟨⟨v, heapKept h1 hg hc, own_kept h2 hg hc⟩, heapKept h.more hg hc, heapKept h.many hg hc, h.kept.grown hg (fun r e => Nat.le_trans hw (hr r e).1), Nat.le_trans h.size hg.size⟩
theorem TK.set {item : Nat → Int × Bool} {many mb b0 base : Nat} {w : World} {k : Nat} {V : World} (h : TK item many mb b0 base w k V) (hm : mb < b0) (hb : b0 + 3 ≤ base) (v : Value) : TK item many mb b0 base w k (V.setCell ⟨mb, 0, none⟩ v) := by
  obtain ⟨u, h1, h2⟩ := h.box
  exact ⟨⟨u, (Below.heap_setCell _ _ _ _ (by simp; omega)).trans h1, own_setCell_other h2 ⟨mb, 0, none⟩ v (own_neB h2 (B := mb) (by omega))⟩, (Below.heap_setCell _ _ _ _ (by simp; omega)).trans h.more, (Below.heap_setCell _ _ _ _ (by simp; omega)).trans h.many, h.kept.trans (Kb.set mb 0 V v), by simpa using h.size⟩

set_option maxRecDepth 100000 in
set_option maxHeartbeats 4000000 in
theorem taken_in (gf : Nat) (lb : Array Value) (item : Nat → Int × Bool) (many mb : Nat) (w : World) (eg : ∀ args w, (callFunc gf args).run Tryz.prog w = .ok (.enter gf args) w) (hseq : Endless Fence.wide 5 Tryz.prog gf lb item w.heap.size mb many w) (hmb : mb < w.heap.size) (hit : ∀ k, 0 ≤ (item k).1 ∧ (item k).1 < 10) (h0 : 0 < many) (hmax : many ≤ 1000) :
    CallsIn Fence.wide 6 Tryz.prog 178 #[.int .i64 (many : Int), .func (.func gf) #[] lb] w fun en w' => ∃ A c, en = .returned (.tuple #[.slice A many c, .bool (lastMore item many)]) ∧ many ≤ c ∧ c ≤ 9223372036854775807 ∧ Row .u8 w' A (firsts item many) ∧ Kb mb w w' := by
  obtain ⟨W, hW, k0, k1, k2, hbel⟩ := bx3h w #[.int .i64 (many : Int)] #[.slice none 0 0] #[.bool false] 3 93 4
  have hsz : W.heap.size = w.heap.size + 3 := by rw [← hW]; simp
  have HK0 := Lib.hid k0; have HK1 := Lib.hid k1; have HK2 := Lib.hid k2; have HBEL := Lib.hid hbel; have HSZ := Lib.hid hsz
  have HSEQ := Lib.hid hseq; have HIT := Lib.hid hit
  clear k0 k1 k2 hbel hsz hseq hit
  refine callsIn_of_wp_marks Tryz.func178 rfl trivial ?_ rfl
  simp only [Tryz.ntmps178, List.size_toArray, List.length_cons, List.length_nil, Nat.reduceAdd, Nat.reduceSub, Array.replicate_succ, Array.replicate_zero, List.push_toArray, List.append_toArray, List.nil_append, List.cons_append]
  gi_wp2_with fail
  have hz := HSZ.out
  obtain ⟨I0, hi, hz0, hz1, hz3⟩ := info_parts info_byte
  have HI := Lib.hid (And.intro hi (And.intro hz0 (And.intro hz1 hz3)))
  clear hi hz0 hz1 hz3
  refine range_endless (n := 6) (id := 0) rfl (by decide) rfl trivial eg HSEQ.out HBEL.out (by omega) (by omega) rfl
    (fun k V => k < many ∧ TK item many mb w.heap.size W.heap.size w k V) (fun k V => k = many ∧ TK item many mb w.heap.size W.heap.size w k V)
    (fun k X Y row h hg hr => ⟨h.1, TK.own item many mb w.heap.size W.heap.size w (by omega) (by omega) k X Y row h.2 hg hr⟩)
    (fun k X Y row h hg hr => ⟨h.1, TK.own item many mb w.heap.size W.heap.size w (by omega) (by omega) k X Y row h.2 hg hr⟩)
    (fun k V v h => ⟨h.1, h.2.set hmb (by omega) v⟩) (fun k V h => h.1)
    ⟨h0, ⟨_, HK1.out, World.ownsRow_nil _ _ _ _⟩, HK2.out, HK0.out, Kb.of HBEL.out, Nat.le_refl _⟩
    (fun k => { tmps := (.int .i64 (many : Int) :: .func (.func gf) #[] lb :: .pointer (some ⟨w.heap.size, 0, none⟩) :: undef :: .pointer (some ⟨w.heap.size + 1, 0, none⟩) :: .pointer (some ⟨w.heap.size + 1 + 1, 0, none⟩) :: .int .u8 (item k).1 :: .bool (item k).2 :: .func (.func gf) #[] lb :: .int .u8 (item k).1 :: .bool (item k).2 :: undef :: undef :: undef :: undef :: undef :: undef :: undef :: undef :: undef :: undef :: undef :: []).toArray, defers := [] }) ?assign ?body ?stop
  case assign =>
    intro l k V K hK
    gi_wp2
    exact hK
  case body =>
    rintro l k V ⟨hk, hT⟩
    obtain ⟨v, ha, hown⟩ := hT.box
    obtain ⟨d0, d9⟩ := HIT.out k
    obtain ⟨⟨d, mo⟩, hd⟩ : ∃ x, item k = x := ⟨_, rfl⟩
    rw [hd] at d0 d9 ⊢
    have HD := Lib.hid hd
    dsimp only at d0 d9 ⊢
    have c0 := cell_of_heap ha 0; have c1 := cell_of_heap hT.more 0; have c2 := cell_of_heap hT.many 0
    simp at c0 c1 c2
    have HOW := Lib.hid hown; have HAX := Lib.hid ha; have HT := Lib.hid hT
    have hzV := hT.size
    have HCE : Hid (∀ (j : Nat) (o : Obj), v.ownBlock = some j → (V.alloc (.cells #[.int .u8 d] 5)).heap[j]? = some o → o.isCells = true) := fun j o hj ho => by
      rcases hown.2 with ⟨rfl, _⟩ | ⟨g, cap, cur, rfl, _, hh, _⟩
      · cases hj
      · cases hj
        rw [heap_old _ hh] at ho
        cases ho; rfl
    have HN0 := Lib.hid (own_neB hown (B := w.heap.size) (by omega)); have HN1 := Lib.hid (own_neB hown (B := w.heap.size + 1) (by omega)); have HN2 := Lib.hid (own_neB hown (B := w.heap.size + 1 + 1) (by omega))
    have a01 : ∀ o, (V.alloc o).cell? ⟨w.heap.size + 1, 0, none⟩ = some v := fun o => keep_cell ((Below.refl _ _).alloc (Nat.le_refl _) o) c0
    clear hd hT ha hown
    have HZV := Lib.hid hzV
    have fin : Hid (∀ (g9 cap9 : Nat) (w1 : World), w1.ownsRow W.heap.size 5 1 (.slice (some ⟨g9, 0, none⟩) (k + 1) cap9) (k + 1) ((firsts item k).map (Value.int .u8) ++ [.int .u8 d]) → (V.alloc (.cells #[.int .u8 d] 5)).grownBy w1 v.ownBlock → KeepsOthers V ((w1.setCell ⟨w.heap.size + 1, 0, none⟩ (.slice (some ⟨g9, 0, none⟩) (k + 1) cap9)).setCell ⟨w.heap.size + 1 + 1, 0, none⟩ (.bool mo)) ∧ Below w.heap.size V ((w1.setCell ⟨w.heap.size + 1, 0, none⟩ (.slice (some ⟨g9, 0, none⟩) (k + 1) cap9)).setCell ⟨w.heap.size + 1 + 1, 0, none⟩ (.bool mo)) ∧ TK item many mb w.heap.size W.heap.size w (k + 1) ((w1.setCell ⟨w.heap.size + 1, 0, none⟩ (.slice (some ⟨g9, 0, none⟩) (k + 1) cap9)).setCell ⟨w.heap.size + 1 + 1, 0, none⟩ (.bool mo))) := by
      intro g9 cap9 w1 hown1 hg1
      have hzV := HZV.out
      have hb1 : Below w.heap.size V w1 := ((Below.refl w.heap.size V).alloc (by omega) _).grown hg1 (by simp; omega) ((own_from HOW.out).mono (by omega))
      have hxa := grownB hg1 (heap_old _ HAX.out) HN1.out
      have hxm := grownB hg1 (heap_old _ HT.out.more) HN2.out
      have hx0 := grownB hg1 (heap_old _ HT.out.many) HN0.out
      have hbb := (hb1.setCell (p := ⟨w.heap.size + 1, 0, none⟩) (by simp) (.slice (some ⟨g9, 0, none⟩) (k + 1) cap9)).setCell (p := ⟨w.heap.size + 1 + 1, 0, none⟩) (by simp; omega) (.bool mo)
      refine ⟨(KeepsOthers.alloc V _).trans ((KeepsOthers.of_grownBy hg1 HCE.out).trans ((KeepsOthers.setCell _ _ _).trans (KeepsOthers.setCell _ _ _))), hbb, ⟨⟨.slice (some ⟨g9, 0, none⟩) (k + 1) cap9, ?_, ?_⟩, ?_, ?_, HT.out.kept.trans' hbb (Nat.le_refl _), Nat.le_trans hzV hbb.size⟩⟩
      · have := putB hxa 0 (.slice (some ⟨g9, 0, none⟩) (k + 1) cap9)
        exact (Below.heap_setCell _ _ _ _ (by simp)).trans (by simpa using this)
      · rw [firsts_succ, HD.out, List.map_append]
        have ho1 := own_setCell_other hown1 ⟨w.heap.size + 1, 0, none⟩ (.slice (some ⟨g9, 0, none⟩) (k + 1) cap9) (own_neB hown1 (B := w.heap.size + 1) (by omega))
        exact own_setCell_other ho1 ⟨w.heap.size + 1 + 1, 0, none⟩ (.bool mo) (own_neB ho1 (B := w.heap.size + 1 + 1) (by omega))
      · have := putB ((Below.heap_setCell w1 ⟨w.heap.size + 1, 0, none⟩ (.slice (some ⟨g9, 0, none⟩) (k + 1) cap9) (w.heap.size + 1 + 1) (by simp)).trans hxm) 0 (.bool mo)
        rw [lastMore, HD.out]
        simpa using this
      · exact (Below.heap_setCell _ _ _ _ (by simp; omega)).trans ((Below.heap_setCell _ _ _ _ (by simp)).trans hx0)
    have hk1 : k + 1 ≤ 1000 := by omega
    by_cases hkm : k + 1 = many
    · have hkm1 : (k : Int) + 1 = (many : Int) := by omega
      gi_wp2_with (gi_at_builtin; refine wpListIn_append_own _ rfl _ _ 93 rfl W.heap.size 5 I0 (.int .u8 0) 1 1 Tryz.underlying93 HI.out.1 HI.out.2.1 HI.out.2.2.1 HI.out.2.2.2 rfl (by decide) _ _ _ rfl (HOW.out.alloc _) ⟨V.heap.size, 0, none⟩ 1 1 [.int .u8 d] rfl rfl (cell_one_new _ _ _) (by simp [Value.oneCell']) (by unfold maxLen; omega) (by omega) (by simp; omega) ?_; intro v' w1 hown1 hgrow1 _; obtain ⟨g9, cap9, rfl⟩ := own_some' hown1 (by omega); have x1 := grownB hgrow1 (heap_old _ HAX.out) HN1.out; have x2 := grownB hgrow1 (heap_old _ HT.out.more) HN2.out; have x0 := grownB hgrow1 (heap_old _ HT.out.many) HN0.out; have y1 := cell_of_heap x1 0; have z1 := free_of_heap x1 0; have y2 := cell_of_heap x2 0; have z2 := free_of_heap x2 0; have y0 := cell_of_heap x0 0; have HF := Lib.hid (fin.out _ _ _ hown1 hgrow1); simp at y0 y1 y2; clear hown1 hgrow1 x0 x1 x2)
      have h9 := HF.out
      rw [hkm] at h9
      exact .inr ⟨rfl, h9.1, hkm, by rw [hkm]; exact h9.2.2⟩
    · have hkm1 : ¬ (k : Int) + 1 = (many : Int) := by omega
      have hkl : k + 1 < many := by omega
      gi_wp2_with (gi_at_builtin; refine wpListIn_append_own _ rfl _ _ 93 rfl W.heap.size 5 I0 (.int .u8 0) 1 1 Tryz.underlying93 HI.out.1 HI.out.2.1 HI.out.2.2.1 HI.out.2.2.2 rfl (by decide) _ _ _ rfl (HOW.out.alloc _) ⟨V.heap.size, 0, none⟩ 1 1 [.int .u8 d] rfl rfl (cell_one_new _ _ _) (by simp [Value.oneCell']) (by unfold maxLen; omega) (by omega) (by simp; omega) ?_; intro v' w1 hown1 hgrow1 _; obtain ⟨g9, cap9, rfl⟩ := own_some' hown1 (by omega); have x1 := grownB hgrow1 (heap_old _ HAX.out) HN1.out; have x2 := grownB hgrow1 (heap_old _ HT.out.more) HN2.out; have x0 := grownB hgrow1 (heap_old _ HT.out.many) HN0.out; have y1 := cell_of_heap x1 0; have z1 := free_of_heap x1 0; have y2 := cell_of_heap x2 0; have z2 := free_of_heap x2 0; have y0 := cell_of_heap x0 0; have HF := Lib.hid (fin.out _ _ _ hown1 hgrow1); simp at y0 y1 y2; clear hown1 hgrow1 x0 x1 x2)
      exact .inl ⟨rfl, HF.out.1, HF.out.2.1, hkl, HF.out.2.2⟩
  case stop =>
    rintro D k V hD ⟨hk, hT⟩ hK
    obtain ⟨v, ha, hown⟩ := hT.box
    rw [hk] at hown
    obtain ⟨A, c, rfl, hc1, hc2, hr, hrl⟩ := own_row hown
    have hcm : c ≤ 9223372036854775807 := by unfold maxLen at hc2; omega
    rw [firsts_length] at ha hown hc1
    have hmo := hT.more
    rw [hk] at hmo
    obtain ⟨mo, hmo2⟩ : ∃ mo, lastMore item many = mo := ⟨_, rfl⟩
    rw [hmo2] at hmo
    have HMO := Lib.hid hmo2
    have a1 := cell_of_heap ha 0; have a2 := cell_of_heap hmo 0; have z1 := free_of_heap ha 0; have z2 := free_of_heap hmo 0
    simp at a1 a2
    have HA := Lib.hid ha; have HM := Lib.hid hmo; have HR := Lib.hid hr; have HK := Lib.hid hK; have HC := Lib.hid (And.intro hc1 hcm); have HKB := Lib.hid hT.kept; have HFR := Lib.hid (own_from hown)
    have hzV := hT.size
    clear hk hT ha hown hc1 hc2 hr hrl hcm hmo hmo2 hK
    gi_wp2_with fail
    gi_region
    all_goals gi_wp2_with fail
    have hb1 := putB HA.out 0 (.slice A many c)
    have hb2 := putB ((Below.heap_setCell V ⟨w.heap.size + 1, 0, none⟩ (.slice A many c) (w.heap.size + 1 + 1) (by simp)).trans HM.out) 0 (.bool mo)
    obtain ⟨F, hF⟩ : ∃ F, ((V.setCell ⟨w.heap.size + 1, 0, none⟩ (.slice A many c)).setCell ⟨w.heap.size + 1 + 1, 0, none⟩ (.bool mo)).drew = F := ⟨_, rfl⟩
    have ho : ∀ g, g ≠ w.heap.size + 1 → g ≠ w.heap.size + 1 + 1 → F.heap[g]? = V.heap[g]? := fun g h1 h2 => by
      rw [← hF]; exact (Below.heap_setCell _ _ _ _ h2).trans (Below.heap_setCell _ _ _ _ h1)
    have hf1 : F.heap[w.heap.size + 1]? = some (.cells #[.slice A many c] 93 (0, 0)) := by
      rw [← hF]; exact (Below.heap_setCell _ _ _ _ (by simp)).trans (by simpa using hb1)
    have hf2 : F.heap[w.heap.size + 1 + 1]? = some (.cells #[.bool mo] 4 (0, 0)) := by
      rw [← hF]; exact (by simpa using hb2 : _)
    have hkb : Kb mb w F := by rw [← hF]; exact ((HKB.out.setF (by omega) _).setF (by omega) _).trans (Kb.drew _ _)
    rw [hF]
    have hK' : F.heap[D]? = some (.deferred (some [])) := (ho D (by omega) (by omega)).trans HK.out
    have hkr : ∀ r, some D = some r → ∃ o : Obj, F.heap[r]? = some o ∧ o.isCells = false := fun r e => by cases e; exact ⟨_, hK', rfl⟩
    have hg := grownBy_putObj' F D (.deferred none)
    have r1 := cell_of_heap (heapKept hf1 hg hkr) 0; have r2 := cell_of_heap (heapKept hf2 hg hkr) 0
    simp at r1 r2
    have hrow : Row .u8 F A (firsts item many) := HR.out.same fun a ha => ho _ (by have := HFR.out a.block (by rw [ha]; rfl); omega) (by have := HFR.out a.block (by rw [ha]; rfl); omega)
    refine ⟨by simp, .inl ⟨_, _, rfl, run_takeDeferred hK', ?_⟩⟩
    refine ⟨.tuple #[.slice A many c, .bool mo], ?_, A, c, by rw [HMO.out], HC.out.1, HC.out.2, row_kept hrow hg hkr, hkb.grown hg (fun r e => by cases e; omega)⟩
    simp [results, Tryz.results178, go_sem, r1, r2]
end Go.Proofs.YtekbfommnmikbaaGreatDoor
