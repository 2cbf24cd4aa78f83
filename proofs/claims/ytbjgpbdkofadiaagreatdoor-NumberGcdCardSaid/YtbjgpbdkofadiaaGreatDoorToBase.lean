/- ToBase. -/
import Derived.Test.YtbjgpbdkofadiaaGreatDoorRootF
import Derived.Test.YtbjgpbdkofadiaaGreatDoorBase
import Derived.Test.YtbjgpbdkofadiaaGreatDoorShelfB
import Derived.Laws.IdiomStrings
namespace Go.Proofs.YtbjgpbdkofadiaaGreatDoor
set_option linter.unusedVariables false
set_option linter.unusedSimpArgs false
open Go.RowKit Go.Shelf Go.Proofs Go.Sort

/-- Bytes turned around. -/
theorem rev_c (g cap : Nat) (l : List UInt8) (w : World) (hc : ∀ j (hj : j < l.length), w.cell? ⟨g, j, none⟩ = some (.int .u8 (l[j].toNat : Int))) (hf : ∀ j, w.frozen? ⟨g, j, none⟩ = false) (hl : l.length ≤ 9223372036854775807) :
    Calls Tryz.prog 84 #[.slice (some ⟨g, 0, none⟩) l.length cap] w fun e w' => e = .returned (.tuple #[]) ∧ (∀ j (hj : j < l.reverse.length), w'.cell? ⟨g, j, none⟩ = some (.int .u8 (l.reverse[j].toNat : Int))) ∧ (∀ k w0, k ≤ g → Below k w0 w → Below k w0 w') := by
  have h0 : Holds (Value.int .u8) w g 0 (List.map (fun b : UInt8 => (b.toNat : Int)) l).toArray := fun j hj => by
    have hj' : j < l.length := by simpa using hj
    rw [Nat.zero_add]
    refine ⟨?_, hf j⟩
    rw [hc j hj', getElem!_pos _ j hj]
    simp
  have h := AnyE.slices_Reverse Tryz.laysRev (Value.int .u8) (fun _ => rfl) g 0 cap (List.map (fun b : UInt8 => (b.toNat : Int)) l) w h0 (by simpa using hl)
  rw [List.length_map] at h
  refine (show Calls Tryz.prog 84 #[.slice (some ⟨g, 0, none⟩) l.length cap] w _ from h).mono ?_
  rintro e w' ⟨rfl, n, rfl⟩
  refine ⟨rfl, fun j hj => ?_, fun k w0 hk hb => ⟨hb.os, hb.tape, hb.output, by simpa [Sort.ahead] using hb.size, fun i hi => ?_⟩⟩
  · have hj' : j < (List.map (fun b : UInt8 => (b.toNat : Int)) l).reverse.toArray.size := by simpa using hj
    have h1 := cell?_putRow (Value.int .u8) (Sort.ahead w n) g 0 (List.map (fun b : UInt8 => (b.toNat : Int)) l).toArray (List.map (fun b : UInt8 => (b.toNat : Int)) l).reverse.toArray h0 (by simp) j hj'
    rw [Nat.zero_add] at h1
    rw [h1, getElem!_pos _ j hj']
    simp [← List.map_reverse]
  · rw [← hb.block i hi]
    simp only [putRow, mapBlock, Sort.ahead, Array.getElem?_modify]
    rw [if_neg (by omega)]

/-- The digits' table. -/
theorem digit_cell {w : World} (ht : Tabs w) (d : Nat) (hd : d < 36) : w.cell? ⟨0, d, none⟩ = some (.int .u8 ((chr d).toNat : Int)) := by
  have h := ht.digit.cell (g := 0) (by kernel_rfl) d hd
  rw [h]
  have key : ∀ i : Fin 36, ([48, 49, 50, 51, 52, 53, 54, 55, 56, 57, 97, 98, 99, 100, 101, 102, 103, 104, 105, 106, 107, 108, 109, 110, 111, 112, 113, 114, 115, 116, 117, 118, 119, 120, 121, 122] : List Int).getD i.1 0 = ((chr i.1).toNat : Int) := by decide +kernel
  rw [key ⟨d, hd⟩]

set_option maxHeartbeats 1000000 in
theorem tobase1_zero (lv : Value) (b : Addr) (w : World) (h : Whs w lv [0]) :
    Calls Tryz.prog 82 #[lv, .pointer (some b)] w fun e w' => e = (Out.ok (.string ⟨#[48]⟩)).end_ ∧ Below w.heap.size w w' := by
  obtain ⟨a, c, p, rfl, c0, c1, hd⟩ := h.first
  obtain ⟨A6, c6, rfl, -, -, -⟩ := hd
  rw [show (0 : Int).natAbs = 0 from rfl, dg_zero] at c1
  simp only [List.length_nil] at c1
  clear h
  go_enter Tryz.func82, Tryz.ntmps82
  go_wp2_with fail
  go_ret
  exact ⟨rfl, (by repeat (first | exact Below.refl _ _ | exact HB.out | (refine Below.alloc ?_ (by first | (simp; done) | (simp; omega)) _) | (refine Below.setCell ?_ (by first | (simp; done) | (simp; omega)) _) | refine Below.drew ?_ | refine below_drewN ?_ _))⟩

theorem dg_zero_at (d : Nat) (hd : d < 1000000000) : (dg 1000000000 d)[0]?.getD 0 = (d : Int) := by
  rcases Nat.eq_zero_or_pos d with rfl | h
  · rw [dg_zero]; rfl
  · rw [dg_single (b := 1000000000) (d := d) (by decide) h hd]; rfl
theorem at0_c (v : Value) (d : Nat) (w : World) (hd : d < 1000000000) (h : Dg 1000000000 w v d) : Calls Tryz.prog 83 #[v, .int .i64 0] w fun e w' => e = .returned (.int .i64 (d : Int)) ∧ w = w' := by
  obtain ⟨A, c, rfl, _, _, hr⟩ := h
  have := at_c A c _ 0 w hr
  rw [dg_zero_at d hd] at this
  exact this
/-- Digits that an append elsewhere leaves. -/
theorem dg_grown {b' : Nat} (hb : 2 ≤ b') {W W2 : World} {q v : Value} {n : Nat} {o : Obj} (h : Dg b' W q n) (hgrow : (W.alloc o).grownBy W2 v.ownBlock) (hne : ∀ g, q.ownBlock = some g → v.ownBlock ≠ some g) : Dg b' W2 q n := by
  by_cases h0 : n = 0
  · subst h0; exact dg_any h
  · refine h.same fun g hg => ?_
    have hlt := dg_block hb h h0 hg
    rw [hgrow.block g (by simp; omega) (fun e => hne g hg e.symm), Below.heap_alloc W o g hlt]
theorem byte_push (l : List UInt8) (c : UInt8) : Lib.byteCells l ++ [.int .u8 (c.toNat : Int)] = Lib.byteCells (l ++ [c]) := by simp [Lib.byteCells]
theorem len_pow {b N m n : Nat} (hb : 2 ≤ b) (h : N < (b ^ m) ^ n) : (dg b N).length ≤ m * n := (dg_length_le hb N (m * n)).2 (by rw [Nat.pow_mul]; exact h)
theorem bdig_len {b N : Nat} (hb : 2 ≤ b) (hN : N < 10 ^ 200) : (bdig b N).length ≤ 800 := by
  unfold bdig
  rw [List.length_map, List.length_reverse]
  have h : (dg b N).length ≤ 4 * 200 := len_pow hb (Nat.lt_of_lt_of_le hN (Nat.pow_le_pow_left (Nat.le_trans (by decide) (Nat.pow_le_pow_left hb 4)) 200))
  exact h

theorem own_some {w : World} {B : Nat} {t : TypeId} {v : Value} {n : Nat} {xs : List Value} (h : w.ownsRow B t 1 v n xs) (hn : 0 < n) : ∃ g cap, v = .slice (some ⟨g, 0, none⟩) n cap := by
  rcases h.2 with ⟨_, h0⟩ | ⟨g, cap, cur, rfl, _⟩
  · omega
  · exact ⟨g, cap, rfl⟩
theorem own_bytes {w : World} {B g n cap : Nat} {t : TypeId} {l : List UInt8} (h : w.ownsRow B t 1 (.slice (some ⟨g, 0, none⟩) n cap) n (Lib.byteCells l)) : ∀ j (hj : j < l.length), w.cell? ⟨g, j, none⟩ = some (.int .u8 (l[j].toNat : Int)) := fun j hj => by
  have := h.cells (g := g) rfl j (.int .u8 (l[j].toNat : Int)) (by simp [Lib.byteCells, hj])
  rw [add_lit, Nat.zero_add] at this
  exact this
theorem conv_rev {P : Program} (w : World) (g cap : Nat) (l : List UInt8) {src dst e : TypeId} (hs : P.underlying src = some (.slice e)) (he : P.underlying e = some (.int .u8)) (hd : P.underlying dst = some .string)
    (hc : ∀ j (hj : j < l.reverse.length), w.cell? ⟨g, j, none⟩ = some (.int .u8 (l.reverse[j].toNat : Int))) : (convert src dst (.slice (some ⟨g, 0, none⟩) l.length cap)).run P w = .ok (.string ⟨l.reverse.toArray⟩) w := by
  have := run_convert_bytes_back (P := P) w src dst e ⟨g, 0, none⟩ cap l.reverse hs he hd (fun j hj => by rw [add_lit, Nat.zero_add]; exact hc j hj)
  rw [List.length_reverse] at this
  exact this

set_option maxRecDepth 100000 in
set_option maxHeartbeats 1000000 in
theorem tobase1_pos (lv : Value) (pb : Addr) (x : Int) (b : Nat) (w : World) (h : Whs w lv [x]) (ht : Tabs w) (hpb : w.cell? pb = some (.int .i64 (b : Int))) (hb : 2 ≤ b) (hb2 : b ≤ 36) (hx : x.natAbs < 10 ^ 200) (hx0 : x ≠ 0) :
    Calls Tryz.prog 82 #[lv, .pointer (some pb)] w fun e w' => e = (Out.ok (.string ⟨(btext b x).toArray⟩)).end_ ∧ Below w.heap.size w w' := by
  obtain ⟨a, c, p, rfl, c0, c1, hd⟩ := h.first
  have HT := Lib.hid ht
  obtain ⟨N, hN⟩ : ∃ N, x.natAbs = N := ⟨_, rfl⟩
  have hN0 : 0 < N := by omega
  have HXE : Hid (btext b x = (if x < 0 then [45] else []) ++ bdig b N) := by
    show _ = _
    unfold btext
    rw [if_neg hx0, hN]
  rw [hN] at hd hx
  have HD := Lib.hid hd
  have hl0 : 0 < (dg 1000000000 N).length := List.length_pos_iff.2 fun e => by have := (dg_eq_nil (by decide)).1 e; omega
  obtain ⟨L, hL⟩ : ∃ L, (dg 1000000000 N).length = L := ⟨_, rfl⟩
  obtain ⟨A6, c6, hp6, -, -, -⟩ := hd
  have HLL := Lib.hid hL
  rw [hL] at hp6 hl0
  subst hp6
  have hl1 : ((L : Int) == 0) = false := by simp; omega
  have HX := Lib.hid hx
  have HBB := Lib.hid (And.intro hb hb2)
  have HN0 := Lib.hid hN0
  obtain ⟨bx, hbx⟩ : ∃ bx, decide (x < 0) = bx := ⟨_, rfl⟩
  have HBX := Lib.hid hbx
  rw [hbx] at c0
  clear h ht hx hN hL hbx hN0 hb hb2
  go_enter Tryz.func82, Tryz.ntmps82
  go_wp2_with fail
  have HPB := Lib.hid hpb
  have HC0 := Lib.hid c0
  have HC1 := Lib.hid c1
  have HD0 := Lib.hid hl0
  clear hl0
  go_loopg [4, 5] N (fun gk pv ov wr => ∃ (m : Nat) (out : List UInt8), gk = m ∧ Hid (Dg 1000000000 wr pv m ∧ m ≤ N) ∧ Hid (wr.ownsRow w.heap.size 5 1 ov out.length (Lib.byteCells out)) ∧ Hid (bdig b N = bdig b m ++ out.reverse) ∧ wr.cell? pb = some (.int .i64 (b : Int)) ∧ wr.cell? ⟨a, 0, none⟩ = some (.bool bx) ∧ wr.cell? ⟨a, 1, none⟩ = some (.slice A6 L c6) ∧ Hid (Below w.heap.size w wr))
  case atStart => exact ⟨N, [], rfl, ⟨HD.out, Nat.le_refl _⟩, World.ownsRow_nil _ _ _ _, by show _ = _; simp, hpb, c0, c1, Below.refl _ _⟩
  case round =>
    obtain ⟨m, out, hgk, HG, HO, HE, kpb, k0, k1, HB⟩ := hrel
    have HGK := Lib.hid hgk
    clear hpb c0 c1 hgk
    have HDG := Lib.hid HG.out.1
    obtain ⟨A7, c7, hp7, -, -, -⟩ := HG.out.1
    obtain ⟨L7, hL7⟩ : ∃ L7, (dg 1000000000 m).length = L7 := ⟨_, rfl⟩
    rw [hL7] at hp7
    subst hp7
    have hlen : out.length ≤ 800 := by
      have h1 := congrArg List.length HE.out
      have h2 := bdig_len HBB.out.1 HX.out
      rw [h1, List.length_append, List.length_reverse] at h2
      omega
    by_cases hm : m = 0
    · have hz : L7 = 0 := by rw [← hL7, hm, dg_zero]; rfl
      subst hz
      have HEE : Hid (bdig b N = out.reverse) := by have := HE.out; rw [hm, bdig_zero, List.nil_append] at this; exact this
      clear hm hL7
      have hne : 0 < out.length := by
        rcases Nat.eq_zero_or_pos out.length with e | e
        · exfalso
          have h1 : bdig b N = [] := by rw [HEE.out, List.eq_nil_of_length_eq_zero e]; rfl
          have h2 : 0 < N := HN0.out
          exact bdig_ne HBB.out.1 h2 h1
        · exact e
      cases bx with
      | true =>
        have HFIN : Hid (btext b x = 45 :: bdig b N) := by show _ = _; rw [HXE.out, if_pos (by simpa using HBX.out)]; rfl
        go_wp2_with (first
          | (at_builtin; obtain ⟨i0, hi, hz0, hz1, hz2⟩ := info_parts info_byte; refine wpList_append_own _ rfl _ _ 101 rfl w.heap.size 5 i0 (.int .u8 0) 1 1 Tryz.underlying101 hi hz0 hz1 hz2 rfl (by decide) _ _ _ rfl (HO.out.alloc _) ⟨wr.heap.size, 0, none⟩ 1 1 [.int .u8 ((45 : UInt8).toNat : Int)] rfl rfl (cell_one_new _ _ _) (by simp [Value.oneCell']) (by unfold maxLen; omega) (by omega) (by have := HB.out.size; simp; omega) ?_; intro v' w2 hown1 hgrow1 _; rw [byte_push] at hown1; have HB3 := Lib.hid ((HB.out.alloc HB.out.size _).grown hgrow1 (by have := HB.out.size; simp; omega) (fun k hk => (HO.out.lt k hk).1)); obtain ⟨g, cap, rfl⟩ := own_some hown1 (by simp); have HO3 := Lib.hid hown1; clear hi hz0 hz1 hz2 hown1 hgrow1)
          | (go_at_call 84; rw [show out.length + 1 = (out ++ [45]).length by simp]; refine (rev_c g cap (out ++ [45]) _ (own_bytes HO3.out) (fun j => HO3.out.frozenAt j) (by simp; omega)).mono ?_; rintro e W5 ⟨rfl, hcs, hbb⟩; have HB5 := Lib.hid (hbb _ _ (HO3.out.lt g rfl).1 HB3.out); have hcv := conv_rev (P := Tryz.prog) W5 g cap (out ++ [45]) Tryz.underlying101 Tryz.underlying5 Tryz.underlying9 hcs; rw [List.length_append, List.length_singleton] at hcv; obtain ⟨R5, hR5⟩ : ∃ R : ByteArray, (⟨(out ++ [45]).reverse.toArray⟩ : ByteArray) = R := ⟨_, rfl⟩; rw [hR5] at hcv; have HR5 := Lib.hid hR5; clear hR5 hcs hbb))
        go_ret
        refine ⟨?_, HB5.out⟩
        show Ending.returned (.string R5) = .returned (.string ⟨(btext b x).toArray⟩)
        rw [← HR5.out, HFIN.out, HEE.out, List.reverse_append]; rfl
      | false =>
        have HFIN : Hid (btext b x = bdig b N) := by show _ = _; rw [HXE.out, if_neg (by simpa using HBX.out)]; rfl
        obtain ⟨g, cap, rfl⟩ := own_some HO.out hne
        go_wp2_with (go_at_call 84; refine (rev_c g cap out _ (own_bytes HO.out) (fun j => HO.out.frozenAt j) (by omega)).mono ?_; rintro e W5 ⟨rfl, hcs, hbb⟩; have HB5 := Lib.hid (hbb _ _ (HO.out.lt g rfl).1 HB.out); have hcv := conv_rev (P := Tryz.prog) W5 g cap out Tryz.underlying101 Tryz.underlying5 Tryz.underlying9 hcs; obtain ⟨R5, hR5⟩ : ∃ R : ByteArray, (⟨out.reverse.toArray⟩ : ByteArray) = R := ⟨_, rfl⟩; rw [hR5] at hcv; have HR5 := Lib.hid hR5; clear hR5 hcs hbb)
        go_ret
        refine ⟨?_, HB5.out⟩
        show Ending.returned (.string R5) = .returned (.string ⟨(btext b x).toArray⟩)
        rw [← HR5.out, HFIN.out, HEE.out]
    · have hz : 0 < L7 := by rw [← hL7]; exact List.length_pos_iff.2 fun e => by have := (dg_eq_nil (by decide)).1 e; omega
      have HM : Hid (0 < m) := by show 0 < m; omega
      clear hm hL7
      have HDM := Lib.hid (Nat.mod_lt m (show 0 < b by have := HBB.out.1; omega))
      have hd36 : m % b < 36 := by have := HDM.out; have := HBB.out.2; omega
      have HLM : Hid ((dg 1000000000 m).length ≤ 1000000) := Nat.le_trans (dg_length_mono (by decide) HG.out.2) (Nat.le_trans (len23 HX.out) (by decide))
      have HLB : Hid ((dg 1000000000 b).length ≤ 999999) := dg_len_small (by have := HBB.out.2; omega)
      have hlen2 : out.length ≤ 800 := hlen
      go_wp2_with (first
        | (go_at_call 75; refine (over_c _ _ m b _ (HDG.out.below ((Below.refl _ _).alloc (Nat.le_refl _) _)) (dg_lit wr b _ (by have := HBB.out.1; omega) (by have := HBB.out.2; omega)) (by have := HBB.out.1; omega) HLM.out HLB.out).mono ?_; rintro e V2 ⟨q, r, rfl, hq, hr, hfq, -, hbz⟩; obtain ⟨A8, n8, c8, rfl⟩ := hq.form; obtain ⟨A9, n9, c9, rfl⟩ := hr.form; have HQ := Lib.hid hq; have HR := Lib.hid hr; have HFQ := Lib.hid hfq; have HB2 := Lib.hid (below_then' (HB.out.alloc HB.out.size _) hbz); have HO2 := Lib.hid (own_below (HO.out.alloc _) hbz); have hdc := digit_cell (HT.out.below HB2.out) (m % b) hd36; clear hq hr hfq hbz)
        | (go_at_call 83; refine (at0_c _ (m % b) _ (by have := hd36; omega) HR.out).mono ?_; rintro e V3 ⟨rfl, rfl⟩)
        | (at_builtin; obtain ⟨i0, hi, hz0, hz1, hz2⟩ := info_parts info_byte; refine wpList_append_own _ rfl _ _ 101 rfl w.heap.size 5 i0 (.int .u8 0) 1 1 Tryz.underlying101 hi hz0 hz1 hz2 rfl (by decide) _ _ _ rfl (HO2.out.alloc _) ⟨V2.heap.size, 0, none⟩ 1 1 [.int .u8 ((chr (m % b)).toNat : Int)] rfl rfl (cell_one_new _ _ _) (by simp [Value.oneCell']) (by unfold maxLen; omega) (by omega) (by have := HB2.out.size; simp; omega) ?_; intro v' w2 hown1 hgrow1 _; have HO3 := Lib.hid hown1; have HG2 := Lib.hid hgrow1; clear hi hz0 hz1 hz2 hown1 hgrow1))
      go_roundg (m / b)
      case measure => have h1 := HGK.out; have h2 := HM.out; rw [h1]; exact Nat.div_lt_self h2 HBB.out.1
      case rel =>
        have hbn := (HB2.out.alloc HB2.out.size (.cells #[.int .u8 ((chr (m % b)).toNat : Int)] 5)).grown HG2.out (by have := HB2.out.size; simp; omega) (fun k hk => (HO2.out.lt k hk).1)
        refine ⟨m / b, out ++ [chr (m % b)], rfl, ⟨?_, Nat.le_trans (Nat.div_le_self _ _) HG.out.2⟩, ?_, ?_, keep_cell hbn HPB.out, keep_cell hbn HC0.out, keep_cell hbn HC1.out, hbn⟩
        · refine dg_grown (by decide) HQ.out HG2.out (fun g hg e => ?_)
          have h1 := HFQ.out g hg
          have h2 := (HO.out.lt g e).2
          simp at h1
          omega
        · have := HO3.out
          rw [byte_push] at this
          rw [List.length_append, List.length_singleton]
          exact this
        · show _ = _
          rw [HE.out, bdig_pos HBB.out.1 HM.out, List.reverse_append, List.append_assoc]
          rfl

/-- What ToBase makes. -/
def toBaseOut (b : Nat) (x : Int) : Out := .ok (.string ⟨(btext b x).toArray⟩)
def tb1 (b : Nat) (zs : List Int) : Out := toBaseOut b (zs.headD 0)

theorem tobase1_c (lv : Value) (pb : Addr) (x : Int) (b : Nat) (w : World) (h : Whs w lv [x]) (ht : Tabs w) (hpb : w.cell? pb = some (.int .i64 (b : Int))) (hb : 2 ≤ b) (hb2 : b ≤ 36) (hx : x.natAbs < 10 ^ 200) :
    Calls Tryz.prog 82 #[lv, .pointer (some pb)] w fun e w' => e = (toBaseOut b x).end_ ∧ Below w.heap.size w w' := by
  by_cases h0 : x = 0
  · subst h0
    rw [show toBaseOut b 0 = .ok (.string ⟨#[48]⟩) from by unfold toBaseOut btext; rw [if_pos rfl]]
    exact tobase1_zero lv pb w h
  · exact tobase1_pos lv pb x b w h ht hpb hb hb2 hx h0

set_option maxHeartbeats 1000000 in
theorem numToBase_c (S : ByteArray) (b : Nat) (hb : 2 ≤ b) (hb2 : b ≤ 36) (w : World) (ht : Tabs w) : Calls Tryz.prog 36 #[.string S, .int .i64 (b : Int)] w (Un S (toBaseOut b) (.string ⟨#[]⟩) w) := by
  have HT := Lib.hid ht
  have HBB := Lib.hid (And.intro hb hb2)
  have h1 : decide ((b : Int) < 2) = false := by simp; omega
  have h2 : decide (36 < (b : Int)) = false := by simp; omega
  have h3 : ¬ (b : Int) < 2 := by omega
  have h4 : ¬ 36 < (b : Int) := by omega
  clear ht hb hb2
  go_enter Tryz.func36, Tryz.ntmps36
  go_wp2_with (go_at_call 55; refine (withStr_c 82 #[.pointer (some ⟨w.heap.size, 0, none⟩)] (enters_of Tryz.func82 (by kernel_rfl) rfl) _ [S] (tb1 b) _ (by have := strs_one (w.alloc (.cells #[.int .i64 (b : Int)] 3)) S 9; simpa using this) (by simp) ?hf).mono ?_)
  case hf =>
    intro zs hz W lv hb hw
    obtain ⟨x, rfl, hx⟩ := one_zs hz
    have hc : ((w.alloc (.cells #[.int .i64 (b : Int)] 3)).alloc (.cells #[.string S] 9)).cell? ⟨w.heap.size, 0, none⟩ = some (.int .i64 (b : Int)) := keep_cell ((Below.refl _ _).alloc (Nat.le_refl _) _) (new_cell w #[.int .i64 (b : Int)] 3 0)
    exact tobase1_c lv ⟨w.heap.size, 0, none⟩ x b W hw (HT.out.below (Below.trans (((Below.refl w.heap.size w).alloc (Nat.le_refl _) _).alloc (by simp) _) (hb.mono (by first | (simp; done) | (simp; omega) | omega)))) (keep_cell (by simpa using hb) hc) HBB.out.1 HBB.out.2 hx.2
  rintro e w' h
  obtain ⟨a, c, rfl, hr⟩ := with_one (f := toBaseOut b) (show WithP [S] (fun zs => toBaseOut b (zs.headD 0)) _ _ _ _ from h) (((Below.refl w.heap.size w).alloc (Nat.le_refl _) _).alloc (by simp) _)
  have HR := Lib.hid hr
  clear h hr
  go_wp2
  go_ret2
  exact HR.out

set_option maxHeartbeats 1000000 in
theorem numToBase_bad (S : ByteArray) (b : Int) (hb : b < 2 ∨ 36 < b) (w : World) : Calls Tryz.prog 36 #[.string S, .int .i64 b] w fun e w' => e = .returned (.tuple #[.string ⟨#[]⟩, .int .i64 1]) ∧ Below w.heap.size w w' := by
  by_cases h : b < 2
  · have h1 : decide (b < 2) = true := by simp [h]
    clear hb
    go_enter Tryz.func36, Tryz.ntmps36
    go_wp2
    go_ret2
    exact ⟨rfl, (by repeat (first | exact Below.refl _ _ | exact HB.out | (refine Below.alloc ?_ (by first | (simp; done) | (simp; omega)) _) | (refine Below.setCell ?_ (by first | (simp; done) | (simp; omega)) _) | refine Below.drew ?_ | refine below_drewN ?_ _))⟩
  · have h1 : decide (b < 2) = false := by simp; omega
    have h3 : 36 < b := by omega
    have h2 : decide (36 < b) = true := by simp [h3]
    clear hb
    go_enter Tryz.func36, Tryz.ntmps36
    go_wp2
    go_ret2
    exact ⟨rfl, (by repeat (first | exact Below.refl _ _ | exact HB.out | (refine Below.alloc ?_ (by first | (simp; done) | (simp; omega)) _) | (refine Below.setCell ?_ (by first | (simp; done) | (simp; omega)) _) | refine Below.drew ?_ | refine below_drewN ?_ _))⟩

end Go.Proofs.YtbjgpbdkofadiaaGreatDoor
