/- Texts of this claim, merged: R4, RFrameD, R5, R6, Ord, Mono, Sticky, RootP, MonoB, FromN, RootM, FloorR, Help, SpA, SpB, Inv. -/
import Derived.Test.YtekbfommnmikbaaGreatDoorU7
import Derived.Deep.RegionWith
import Derived.Laws.IdiomStrings
import Derived.Deep.CutRange
import Derived.Test.YtekbfommnmikbaaGreatDoorShelfB
import Derived.Deep.DrawnRows
import Derived.Lib.ItoaLen
import Derived.Laws.Concat
import Derived.RegionTactic
/- Bases; the functions at valid integers. -/
namespace Go.Proofs.YtekbfommnmikbaaGreatDoor
set_option linter.unusedVariables false
set_option linter.unusedSimpArgs false
open Go.RowKit
attribute [local go_sem] max2_int min2_int max_two min_two

/-- What stands while two results are stored. -/
structure QS (w : World) (u v : Value) (mq mr : Nat) (W : World) : Prop where
  s20 : ∃ z, W.cell? ⟨w.heap.size + 1 + 1, 0, none⟩ = some z
  s21 : ∃ z, W.cell? ⟨w.heap.size + 1 + 1, 1, none⟩ = some z
  s30 : ∃ z, W.cell? ⟨w.heap.size + 1 + 1 + 1, 0, none⟩ = some z
  s31 : ∃ z, W.cell? ⟨w.heap.size + 1 + 1 + 1, 1, none⟩ = some z
  g20 : W.frozen? ⟨w.heap.size + 1 + 1, 0, none⟩ = false
  g21 : W.frozen? ⟨w.heap.size + 1 + 1, 1, none⟩ = false
  g30 : W.frozen? ⟨w.heap.size + 1 + 1 + 1, 0, none⟩ = false
  g31 : W.frozen? ⟨w.heap.size + 1 + 1 + 1, 1, none⟩ = false
  hu : Dg 1000000000 W u mq
  hv : Dg 1000000000 W v mr
  fu : FromB (w.heap.size + 4) u
  fv : FromB (w.heap.size + 4) v
  bel : Bel w.heap.size w W
theorem QS.call {w : World} {u v : Value} {mq mr : Nat} {W W' : World} (h : QS w u v mq mr W) (hb : Below W.heap.size W W') : QS w u v mq mr W' := by
  obtain ⟨⟨a, ha⟩, ⟨b, hb'⟩, ⟨c, hc⟩, ⟨d, hd⟩, g1, g2, g3, g4, hu, hv, fu, fv, hbel⟩ := h
  exact ⟨⟨_, keep_cell hb ha⟩, ⟨_, keep_cell hb hb'⟩, ⟨_, keep_cell hb hc⟩, ⟨_, keep_cell hb hd⟩, keep_free' hb ha g1, keep_free' hb hb' g2, keep_free' hb hc g3, keep_free' hb hd g4, hu.below hb, hv.below hb, fu, fv, hbel.call hb⟩
theorem QS.drew {w : World} {u v : Value} {mq mr : Nat} {W : World} (h : QS w u v mq mr W) : QS w u v mq mr W.drew := h.call (Below.refl _ _).drew
theorem some_set' {w : World} {a b : Addr} {v : Value} (h : ∃ z, w.cell? b = some z) : ∃ z, (w.setCell a v).cell? b = some z := by
  obtain ⟨z, hz⟩ := h
  by_cases e : a = b
  · subst e; exact ⟨_, set_same v hz⟩
  · exact ⟨_, set_other v e hz⟩
theorem QS.set {w : World} {u v : Value} {mq mr : Nat} {W : World} (h : QS w u v mq mr W) (k i : Nat) (hk : w.heap.size ≤ k ∧ k < w.heap.size + 4) (x : Value) : QS w u v mq mr (W.setCell ⟨k, i, none⟩ x) := by
  obtain ⟨ha, hb', hc, hd, g1, g2, g3, g4, hu, hv, fu, fv, hbel⟩ := h
  exact ⟨some_set' ha, some_set' hb', some_set' hc, some_set' hd, by simpa using g1, by simpa using g2, by simpa using g3, by simpa using g4, hu.set fu hk.2 _, hv.set fv hk.2 _, fu, fv, hbel.set _ hk.1⟩
end Go.Proofs.YtekbfommnmikbaaGreatDoor

namespace Go.Proofs.YtekbfommnmikbaaGreatDoor
set_option linter.unusedVariables false
set_option linter.unusedSimpArgs false
open Go.RowKit
attribute [local go_sem] max2_int min2_int max_two min_two

theorem WhN.form {k : Nat} {w : World} {v : Value} {z : Int} (h : WhN k w v z) : ∃ b A n c, v = .agg #[.bool b, .slice A n c] ∧ b = decide (z < 0) ∧ n = (dg 1000000000 z.natAbs).length := by
  obtain ⟨p, rfl, ⟨A, c, rfl, _⟩, _⟩ := h
  exact ⟨_, _, _, _, rfl, rfl, rfl⟩

theorem WhN.parts {k : Nat} {w : World} {b : Bool} {p : Value} {z : Int} (h : WhN k w (.agg #[.bool b, p]) z) : Dg 1000000000 w p z.natAbs ∧ FromB k p ∧ b = decide (z < 0) := by
  obtain ⟨p', e, h1, h2⟩ := h
  simp only [Value.agg.injEq, Array.mk.injEq, List.cons.injEq, Value.bool.injEq, and_true] at e
  obtain ⟨rfl, rfl⟩ := e
  exact ⟨h1, h2, rfl⟩

/-- What stands while floor's sums are made. -/
structure FS (w : World) (a b c : Value) (x y z : Int) (W : World) : Prop where
  s20 : ∃ z, W.cell? ⟨w.heap.size + 1 + 1, 0, none⟩ = some z
  s21 : ∃ z, W.cell? ⟨w.heap.size + 1 + 1, 1, none⟩ = some z
  s30 : ∃ z, W.cell? ⟨w.heap.size + 1 + 1 + 1, 0, none⟩ = some z
  s31 : ∃ z, W.cell? ⟨w.heap.size + 1 + 1 + 1, 1, none⟩ = some z
  g20 : W.frozen? ⟨w.heap.size + 1 + 1, 0, none⟩ = false
  g21 : W.frozen? ⟨w.heap.size + 1 + 1, 1, none⟩ = false
  g30 : W.frozen? ⟨w.heap.size + 1 + 1 + 1, 0, none⟩ = false
  g31 : W.frozen? ⟨w.heap.size + 1 + 1 + 1, 1, none⟩ = false
  ha : Wh W a x
  hb : Wh W b y
  hc : Wh W c z
  ka : WhN (w.heap.size + 4) W a x
  kb : WhN (w.heap.size + 4) W b y
  old : Wh w c z
  bel : Bel w.heap.size w W
theorem FS.call {w : World} {a b c : Value} {x y z : Int} {W W' : World} (h : FS w a b c x y z W) (hb : Below W.heap.size W W') : FS w a b c x y z W' := by
  obtain ⟨⟨_, ha⟩, ⟨_, hb'⟩, ⟨_, hc⟩, ⟨_, hd⟩, g1, g2, g3, g4, h1, h2, h3, k1, k2, ho, hbel⟩ := h
  exact ⟨⟨_, keep_cell hb ha⟩, ⟨_, keep_cell hb hb'⟩, ⟨_, keep_cell hb hc⟩, ⟨_, keep_cell hb hd⟩, keep_free' hb ha g1, keep_free' hb hb' g2, keep_free' hb hc g3, keep_free' hb hd g4, h1.below hb, h2.below hb, h3.below hb, k1.below hb, k2.below hb, ho, hbel.call hb⟩
theorem FS.drew {w : World} {a b c : Value} {x y z : Int} {W : World} (h : FS w a b c x y z W) : FS w a b c x y z W.drew := h.call (Below.refl _ _).drew
theorem FS.alloc {w : World} {a b c : Value} {x y z : Int} {W : World} (h : FS w a b c x y z W) (o : Obj) : FS w a b c x y z (W.alloc o) := h.call ((Below.refl _ _).alloc (Nat.le_refl _) _)
theorem FS.set {w : World} {a b c : Value} {x y z : Int} {W : World} (h : FS w a b c x y z W) (k i : Nat) (hk : w.heap.size ≤ k ∧ k < w.heap.size + 4) (v : Value) : FS w a b c x y z (W.setCell ⟨k, i, none⟩ v) := by
  obtain ⟨ha, hb', hc, hd, g1, g2, g3, g4, h1, h2, h3, k1, k2, ho, hbel⟩ := h
  have hbel' := hbel.set (a := ⟨k, i, none⟩) v hk.1
  exact ⟨some_set' ha, some_set' hb', some_set' hc, some_set' hd, by simpa using g1, by simpa using g2, by simpa using g3, by simpa using g4, (k1.set hk.2 _).wh, (k2.set hk.2 _).wh, ho.below hbel'.to, k1.set hk.2 _, k2.set hk.2 _, ho, hbel'⟩
end Go.Proofs.YtekbfommnmikbaaGreatDoor

namespace Go.Proofs.YtekbfommnmikbaaGreatDoor
set_option linter.unusedVariables false
set_option linter.unusedSimpArgs false
open Go.RowKit Go.Shelf Go.Proofs

end Go.Proofs.YtekbfommnmikbaaGreatDoor

namespace Go.Proofs.YtekbfommnmikbaaGreatDoor
set_option linter.unusedVariables false
set_option linter.unusedSimpArgs false
open Go.RowKit Go.Shelf Go.Proofs

end Go.Proofs.YtekbfommnmikbaaGreatDoor

namespace Go.Proofs.YtekbfommnmikbaaGreatDoor
set_option linter.unusedVariables false
set_option linter.unusedSimpArgs false

/-- A digit's sign. -/
def chr (d : Nat) : UInt8 := if d < 10 then UInt8.ofNat (48 + d) else UInt8.ofNat (87 + d)
/-- The digits' signs, the most significant one first; nothing for 0. -/
def bdig (b n : Nat) : List UInt8 := (dg b n).reverse.map fun d => chr d.toNat
/-- The text to a base. -/
def btext (b : Nat) (z : Int) : List UInt8 := if z = 0 then [48] else (if z < 0 then [45] else []) ++ bdig b z.natAbs

theorem bdig_pos {b n : Nat} (hb : 2 ≤ b) (hn : 0 < n) : bdig b n = bdig b (n / b) ++ [chr (n % b)] := by
  unfold bdig
  rw [dg_pos hb hn, List.reverse_cons, List.map_append, List.map_cons, List.map_nil, Int.toNat_natCast]
theorem bdig_zero (b : Nat) : bdig b 0 = [] := by unfold bdig; rw [dg_zero]; rfl

/-- To the base 10: the decimal digits. -/
theorem bdig_ten : ∀ n, 0 < n → bdig 10 n = Lib.decDigits n := by
  intro n
  induction n using Nat.strongRecOn with
  | _ n ih =>
    intro hn
    rw [bdig_pos (by decide) hn]
    by_cases h : n < 10
    · rw [Nat.div_eq_of_lt h, bdig_zero, Nat.mod_eq_of_lt h, Lib.decDigits_one h]
      unfold chr
      rw [if_pos h]; simp
    · rw [ih (n / 10) (by omega) (by omega)]
      conv => rhs; rw [Lib.decDigits, dif_neg h]
      unfold chr
      rw [if_pos (Nat.mod_lt _ (by decide))]
theorem btext_ten (z : Int) : btext 10 z = Lib.itoa z := by
  unfold btext Lib.itoa
  by_cases h0 : z = 0
  · subst h0; rw [if_pos rfl, if_neg (by omega)]; exact decDigits_zero.symm
  · rw [if_neg h0, bdig_ten _ (by omega)]
    by_cases h : z < 0
    · rw [if_pos h, if_pos h]; rfl
    · rw [if_neg h, if_neg h, show z.toNat = z.natAbs by omega]; rfl

theorem bdig_ne {b n : Nat} (hb : 2 ≤ b) (hn : 0 < n) : bdig b n ≠ [] := by rw [bdig_pos hb hn]; simp
end Go.Proofs.YtekbfommnmikbaaGreatDoor

namespace Go.Proofs.YtekbfommnmikbaaGreatDoor
set_option linter.unusedVariables false
set_option linter.unusedSimpArgs false
open Go.RowKit Go.Shelf Go.Proofs

/-- A slice of one digit, newly made. -/
theorem dg_lit (W : World) (d : Nat) (t : TypeId) (h0 : 0 < d) (h1 : d < 1000000000) : Dg 1000000000 (W.alloc (.cells #[.int .i64 (d : Int)] t)) (.slice (some ⟨W.heap.size, 0, none⟩) 1 1) d := by
  unfold Dg
  rw [dg_single (b := 1000000000) (d := d) (by decide) h0 h1]
  exact ⟨_, _, rfl, by simp, by omega, lit_row W d t⟩

theorem dg_len_small {n : Nat} (h : n < 10 ^ 250) : (dg 1000000000 n).length ≤ 999999 := by
  refine Nat.le_trans ((dg_length_le (by decide) n 28).2 (Nat.lt_of_lt_of_le h ?_)) (by decide)
  rw [show (1000000000 : Nat) = 10 ^ 9 from rfl, ← Nat.pow_mul]
  exact Nat.pow_le_pow_right (by decide) (by decide)

end Go.Proofs.YtekbfommnmikbaaGreatDoor

namespace Go.Proofs.YtekbfommnmikbaaGreatDoor
set_option linter.unusedVariables false
set_option linter.unusedSimpArgs false
open Go.RowKit Go.Shelf Go.Proofs

end Go.Proofs.YtekbfommnmikbaaGreatDoor

namespace Go.Proofs.YtekbfommnmikbaaGreatDoor
set_option linter.unusedVariables false
set_option linter.unusedSimpArgs false
open Go.RowKit Go.Shelf Go.Proofs Go.Sort

/-- Bytes turned around. -/
theorem rev_c (g cap : Nat) (l : List UInt8) (w : World) (hc : ∀ j (hj : j < l.length), w.cell? ⟨g, j, none⟩ = some (.int .u8 (l[j].toNat : Int))) (hf : ∀ j, w.frozen? ⟨g, j, none⟩ = false) (hl : l.length ≤ 9223372036854775807) :
    Calls Tryz.prog 156 #[.slice (some ⟨g, 0, none⟩) l.length cap] w fun e w' => e = .returned (.tuple #[]) ∧ (∀ j (hj : j < l.reverse.length), w'.cell? ⟨g, j, none⟩ = some (.int .u8 (l.reverse[j].toNat : Int))) ∧ (∀ k w0, k ≤ g → Below k w0 w → Below k w0 w') := by
  have h0 : Holds (Value.int .u8) w g 0 (List.map (fun b : UInt8 => (b.toNat : Int)) l).toArray := fun j hj => by
    have hj' : j < l.length := by simpa using hj
    rw [Nat.zero_add]
    refine ⟨?_, hf j⟩
    rw [hc j hj', getElem!_pos _ j hj]
    simp
  have h := AnyE.slices_Reverse Tryz.laysRev (Value.int .u8) (fun _ => rfl) g 0 cap (List.map (fun b : UInt8 => (b.toNat : Int)) l) w h0 (by simpa using hl)
  rw [List.length_map] at h
  refine (show Calls Tryz.prog 156 #[.slice (some ⟨g, 0, none⟩) l.length cap] w _ from h).mono ?_
  rintro e w' ⟨rfl, n, rfl⟩
  refine ⟨rfl, fun j hj => ?_, fun k w0 hk hb => ⟨hb.os, hb.tape, hb.output, by simpa [Sort.ahead] using hb.size, fun i hi => ?_⟩⟩
  · have hj' : j < (List.map (fun b : UInt8 => (b.toNat : Int)) l).reverse.toArray.size := by simpa using hj
    have h1 := cell?_putRow (Value.int .u8) (Sort.ahead w n) g 0 (List.map (fun b : UInt8 => (b.toNat : Int)) l).toArray (List.map (fun b : UInt8 => (b.toNat : Int)) l).reverse.toArray h0 (by simp) j hj'
    rw [Nat.zero_add] at h1
    rw [h1, getElem!_pos _ j hj']
    simp [← List.map_reverse]
  · rw [← hb.block i hi]
    simp only [putRow, mapBlock, Sort.ahead, Array.getElem?_modify]
    rw [if_neg (by omega)]

/-- The digits' table. -/
theorem digit_cell {w : World} (ht : Tabs w) (d : Nat) (hd : d < 36) : w.cell? ⟨0, d, none⟩ = some (.int .u8 ((chr d).toNat : Int)) := by
  have h := ht.digit.cell (g := 0) (by kernel_rfl) d hd
  rw [h]
  have key : ∀ i : Fin 36, ([48, 49, 50, 51, 52, 53, 54, 55, 56, 57, 97, 98, 99, 100, 101, 102, 103, 104, 105, 106, 107, 108, 109, 110, 111, 112, 113, 114, 115, 116, 117, 118, 119, 120, 121, 122] : List Int).getD i.1 0 = ((chr i.1).toNat : Int) := by decide +kernel
  rw [key ⟨d, hd⟩]

set_option maxHeartbeats 1000000 in
theorem tobase1_zero (lv : Value) (b : Addr) (w : World) (h : Whs w lv [0]) :
    Calls Tryz.prog 197 #[lv, .pointer (some b)] w fun e w' => e = (Out.ok (.string ⟨#[48]⟩)).end_ ∧ Below w.heap.size w w' := by
  obtain ⟨a, c, p, rfl, c0, c1, hd⟩ := h.first
  obtain ⟨A6, c6, rfl, -, -, -⟩ := hd
  rw [show (0 : Int).natAbs = 0 from rfl, dg_zero] at c1
  simp only [List.length_nil] at c1
  clear h
  go_enter Tryz.func197, Tryz.ntmps197
  go_wp2_with fail
  go_ret
  exact ⟨rfl, (by repeat (first | exact Below.refl _ _ | exact HB.out | (refine Below.alloc ?_ (by first | (simp; done) | (simp; omega)) _) | (refine Below.setCell ?_ (by first | (simp; done) | (simp; omega)) _) | refine Below.drew ?_ | refine below_drewN ?_ _))⟩

theorem dg_zero_at (d : Nat) (hd : d < 1000000000) : (dg 1000000000 d)[0]?.getD 0 = (d : Int) := by
  rcases Nat.eq_zero_or_pos d with rfl | h
  · rw [dg_zero]; rfl
  · rw [dg_single (b := 1000000000) (d := d) (by decide) h hd]; rfl
theorem at0_c (v : Value) (d : Nat) (w : World) (hd : d < 1000000000) (h : Dg 1000000000 w v d) : Calls Tryz.prog 199 #[v, .int .i64 0] w fun e w' => e = .returned (.int .i64 (d : Int)) ∧ w = w' := by
  obtain ⟨A, c, rfl, _, _, hr⟩ := h
  have := at_c A c _ 0 w hr
  rw [dg_zero_at d hd] at this
  exact this
/-- Digits that an append elsewhere leaves. -/
theorem dg_grown {b' : Nat} (hb : 2 ≤ b') {W W2 : World} {q v : Value} {n : Nat} {o : Obj} (h : Dg b' W q n) (hgrow : (W.alloc o).grownBy W2 v.ownBlock) (hne : ∀ g, q.ownBlock = some g → v.ownBlock ≠ some g) : Dg b' W2 q n := by
  by_cases h0 : n = 0
  · subst h0; exact dg_any h
  · refine h.same fun g hg => ?_
    have hlt := dg_block hb h h0 hg
    rw [hgrow.block g (by simp; omega) (fun e => hne g hg e.symm), Below.heap_alloc W o g hlt]
theorem byte_push (l : List UInt8) (c : UInt8) : Lib.byteCells l ++ [.int .u8 (c.toNat : Int)] = Lib.byteCells (l ++ [c]) := by simp [Lib.byteCells]
theorem len_pow {b N m n : Nat} (hb : 2 ≤ b) (h : N < (b ^ m) ^ n) : (dg b N).length ≤ m * n := (dg_length_le hb N (m * n)).2 (by rw [Nat.pow_mul]; exact h)
theorem bdig_len {b N : Nat} (hb : 2 ≤ b) (hN : N < 10 ^ 200) : (bdig b N).length ≤ 800 := by
  unfold bdig
  rw [List.length_map, List.length_reverse]
  have h : (dg b N).length ≤ 4 * 200 := len_pow hb (Nat.lt_of_lt_of_le hN (Nat.pow_le_pow_left (Nat.le_trans (by decide) (Nat.pow_le_pow_left hb 4)) 200))
  exact h

theorem own_some {w : World} {B : Nat} {t : TypeId} {v : Value} {n : Nat} {xs : List Value} (h : w.ownsRow B t 1 v n xs) (hn : 0 < n) : ∃ g cap, v = .slice (some ⟨g, 0, none⟩) n cap := by
  rcases h.2 with ⟨_, h0⟩ | ⟨g, cap, cur, rfl, _⟩
  · omega
  · exact ⟨g, cap, rfl⟩
theorem own_bytes {w : World} {B g n cap : Nat} {t : TypeId} {l : List UInt8} (h : w.ownsRow B t 1 (.slice (some ⟨g, 0, none⟩) n cap) n (Lib.byteCells l)) : ∀ j (hj : j < l.length), w.cell? ⟨g, j, none⟩ = some (.int .u8 (l[j].toNat : Int)) := fun j hj => by
  have := h.cells (g := g) rfl j (.int .u8 (l[j].toNat : Int)) (by simp [Lib.byteCells, hj])
  rw [add_lit, Nat.zero_add] at this
  exact this
theorem conv_rev {P : Program} (w : World) (g cap : Nat) (l : List UInt8) {src dst e : TypeId} (hs : P.underlying src = some (.slice e)) (he : P.underlying e = some (.int .u8)) (hd : P.underlying dst = some .string)
    (hc : ∀ j (hj : j < l.reverse.length), w.cell? ⟨g, j, none⟩ = some (.int .u8 (l.reverse[j].toNat : Int))) : (convert src dst (.slice (some ⟨g, 0, none⟩) l.length cap)).run P w = .ok (.string ⟨l.reverse.toArray⟩) w := by
  have := run_convert_bytes_back (P := P) w src dst e ⟨g, 0, none⟩ cap l.reverse hs he hd (fun j hj => by rw [add_lit, Nat.zero_add]; exact hc j hj)
  rw [List.length_reverse] at this
  exact this

set_option maxRecDepth 100000 in
set_option maxHeartbeats 1000000 in
theorem tobase1_pos (lv : Value) (pb : Addr) (x : Int) (b : Nat) (w : World) (h : Whs w lv [x]) (ht : Tabs w) (hpb : w.cell? pb = some (.int .i64 (b : Int))) (hb : 2 ≤ b) (hb2 : b ≤ 36) (hx : x.natAbs < 10 ^ 200) (hx0 : x ≠ 0) :
    Calls Tryz.prog 197 #[lv, .pointer (some pb)] w fun e w' => e = (Out.ok (.string ⟨(btext b x).toArray⟩)).end_ ∧ Below w.heap.size w w' := by
  obtain ⟨a, c, p, rfl, c0, c1, hd⟩ := h.first
  have HT := Lib.hid ht
  obtain ⟨N, hN⟩ : ∃ N, x.natAbs = N := ⟨_, rfl⟩
  have hN0 : 0 < N := by omega
  have HXE : Hid (btext b x = (if x < 0 then [45] else []) ++ bdig b N) := by
    show _ = _
    unfold btext
    rw [if_neg hx0, hN]
  rw [hN] at hd hx
  have HD := Lib.hid hd
  have hl0 : 0 < (dg 1000000000 N).length := List.length_pos_iff.2 fun e => by have := (dg_eq_nil (by decide)).1 e; omega
  obtain ⟨L, hL⟩ : ∃ L, (dg 1000000000 N).length = L := ⟨_, rfl⟩
  obtain ⟨A6, c6, hp6, -, -, -⟩ := hd
  have HLL := Lib.hid hL
  rw [hL] at hp6 hl0
  subst hp6
  have hl1 : ((L : Int) == 0) = false := by simp; omega
  have HX := Lib.hid hx
  have HBB := Lib.hid (And.intro hb hb2)
  have HN0 := Lib.hid hN0
  obtain ⟨bx, hbx⟩ : ∃ bx, decide (x < 0) = bx := ⟨_, rfl⟩
  have HBX := Lib.hid hbx
  rw [hbx] at c0
  clear h ht hx hN hL hbx hN0 hb hb2
  go_enter Tryz.func197, Tryz.ntmps197
  go_wp2_with fail
  have HPB := Lib.hid hpb
  have HC0 := Lib.hid c0
  have HC1 := Lib.hid c1
  have HD0 := Lib.hid hl0
  clear hl0
  go_loopg [4, 5] N (fun gk pv ov wr => ∃ (m : Nat) (out : List UInt8), gk = m ∧ Hid (Dg 1000000000 wr pv m ∧ m ≤ N) ∧ Hid (wr.ownsRow w.heap.size 5 1 ov out.length (Lib.byteCells out)) ∧ Hid (bdig b N = bdig b m ++ out.reverse) ∧ wr.cell? pb = some (.int .i64 (b : Int)) ∧ wr.cell? ⟨a, 0, none⟩ = some (.bool bx) ∧ wr.cell? ⟨a, 1, none⟩ = some (.slice A6 L c6) ∧ Hid (Below w.heap.size w wr))
  case atStart => exact ⟨N, [], rfl, ⟨HD.out, Nat.le_refl _⟩, World.ownsRow_nil _ _ _ _, by show _ = _; simp, hpb, c0, c1, Below.refl _ _⟩
  case round =>
    obtain ⟨m, out, hgk, HG, HO, HE, kpb, k0, k1, HB⟩ := hrel
    have HGK := Lib.hid hgk
    clear hpb c0 c1 hgk
    have HDG := Lib.hid HG.out.1
    obtain ⟨A7, c7, hp7, -, -, -⟩ := HG.out.1
    obtain ⟨L7, hL7⟩ : ∃ L7, (dg 1000000000 m).length = L7 := ⟨_, rfl⟩
    rw [hL7] at hp7
    subst hp7
    have hlen : out.length ≤ 800 := by
      have h1 := congrArg List.length HE.out
      have h2 := bdig_len HBB.out.1 HX.out
      rw [h1, List.length_append, List.length_reverse] at h2
      omega
    by_cases hm : m = 0
    · have hz : L7 = 0 := by rw [← hL7, hm, dg_zero]; rfl
      subst hz
      have HEE : Hid (bdig b N = out.reverse) := by have := HE.out; rw [hm, bdig_zero, List.nil_append] at this; exact this
      clear hm hL7
      have hne : 0 < out.length := by
        rcases Nat.eq_zero_or_pos out.length with e | e
        · exfalso
          have h1 : bdig b N = [] := by rw [HEE.out, List.eq_nil_of_length_eq_zero e]; rfl
          have h2 : 0 < N := HN0.out
          exact bdig_ne HBB.out.1 h2 h1
        · exact e
      cases bx with
      | true =>
        have HFIN : Hid (btext b x = 45 :: bdig b N) := by show _ = _; rw [HXE.out, if_pos (by simpa using HBX.out)]; rfl
        go_wp2_with (first
          | (at_builtin; obtain ⟨i0, hi, hz0, hz1, hz2⟩ := info_parts info_byte; refine wpList_append_own _ rfl _ _ 93 rfl w.heap.size 5 i0 (.int .u8 0) 1 1 Tryz.underlying93 hi hz0 hz1 hz2 rfl (by decide) _ _ _ rfl (HO.out.alloc _) ⟨wr.heap.size, 0, none⟩ 1 1 [.int .u8 ((45 : UInt8).toNat : Int)] rfl rfl (cell_one_new _ _ _) (by simp [Value.oneCell']) (by unfold maxLen; omega) (by omega) (by have := HB.out.size; simp; omega) ?_; intro v' w2 hown1 hgrow1 _; rw [byte_push] at hown1; have HB3 := Lib.hid ((HB.out.alloc HB.out.size _).grown hgrow1 (by have := HB.out.size; simp; omega) (fun k hk => (HO.out.lt k hk).1)); obtain ⟨g, cap, rfl⟩ := own_some hown1 (by simp); have HO3 := Lib.hid hown1; clear hi hz0 hz1 hz2 hown1 hgrow1)
          | (go_at_call 156; rw [show out.length + 1 = (out ++ [45]).length by simp]; refine (rev_c g cap (out ++ [45]) _ (own_bytes HO3.out) (fun j => HO3.out.frozenAt j) (by simp; omega)).mono ?_; rintro e W5 ⟨rfl, hcs, hbb⟩; have HB5 := Lib.hid (hbb _ _ (HO3.out.lt g rfl).1 HB3.out); have hcv := conv_rev (P := Tryz.prog) W5 g cap (out ++ [45]) Tryz.underlying93 Tryz.underlying5 Tryz.underlying9 hcs; rw [List.length_append, List.length_singleton] at hcv; obtain ⟨R5, hR5⟩ : ∃ R : ByteArray, (⟨(out ++ [45]).reverse.toArray⟩ : ByteArray) = R := ⟨_, rfl⟩; rw [hR5] at hcv; have HR5 := Lib.hid hR5; clear hR5 hcs hbb))
        go_ret
        refine ⟨?_, HB5.out⟩
        show Ending.returned (.string R5) = .returned (.string ⟨(btext b x).toArray⟩)
        rw [← HR5.out, HFIN.out, HEE.out, List.reverse_append]; rfl
      | false =>
        have HFIN : Hid (btext b x = bdig b N) := by show _ = _; rw [HXE.out, if_neg (by simpa using HBX.out)]; rfl
        obtain ⟨g, cap, rfl⟩ := own_some HO.out hne
        go_wp2_with (go_at_call 156; refine (rev_c g cap out _ (own_bytes HO.out) (fun j => HO.out.frozenAt j) (by omega)).mono ?_; rintro e W5 ⟨rfl, hcs, hbb⟩; have HB5 := Lib.hid (hbb _ _ (HO.out.lt g rfl).1 HB.out); have hcv := conv_rev (P := Tryz.prog) W5 g cap out Tryz.underlying93 Tryz.underlying5 Tryz.underlying9 hcs; obtain ⟨R5, hR5⟩ : ∃ R : ByteArray, (⟨out.reverse.toArray⟩ : ByteArray) = R := ⟨_, rfl⟩; rw [hR5] at hcv; have HR5 := Lib.hid hR5; clear hR5 hcs hbb)
        go_ret
        refine ⟨?_, HB5.out⟩
        show Ending.returned (.string R5) = .returned (.string ⟨(btext b x).toArray⟩)
        rw [← HR5.out, HFIN.out, HEE.out]
    · have hz : 0 < L7 := by rw [← hL7]; exact List.length_pos_iff.2 fun e => by have := (dg_eq_nil (by decide)).1 e; omega
      have HM : Hid (0 < m) := by show 0 < m; omega
      clear hm hL7
      have HDM := Lib.hid (Nat.mod_lt m (show 0 < b by have := HBB.out.1; omega))
      have hd36 : m % b < 36 := by have := HDM.out; have := HBB.out.2; omega
      have HLM : Hid ((dg 1000000000 m).length ≤ 1000000) := Nat.le_trans (dg_length_mono (by decide) HG.out.2) (Nat.le_trans (len23 HX.out) (by decide))
      have HLB : Hid ((dg 1000000000 b).length ≤ 999999) := dg_len_small (by have := HBB.out.2; omega)
      have hlen2 : out.length ≤ 800 := hlen
      go_wp2_with (first
        | (go_at_call 198; refine (over_c _ _ m b _ (HDG.out.below ((Below.refl _ _).alloc (Nat.le_refl _) _)) (dg_lit wr b _ (by have := HBB.out.1; omega) (by have := HBB.out.2; omega)) (by have := HBB.out.1; omega) HLM.out HLB.out).mono ?_; rintro e V2 ⟨q, r, rfl, hq, hr, hfq, -, hbz⟩; obtain ⟨A8, n8, c8, rfl⟩ := hq.form; obtain ⟨A9, n9, c9, rfl⟩ := hr.form; have HQ := Lib.hid hq; have HR := Lib.hid hr; have HFQ := Lib.hid hfq; have HB2 := Lib.hid (below_then' (HB.out.alloc HB.out.size _) hbz); have HO2 := Lib.hid (own_below (HO.out.alloc _) hbz); have hdc := digit_cell (HT.out.below HB2.out) (m % b) hd36; clear hq hr hfq hbz)
        | (go_at_call 199; refine (at0_c _ (m % b) _ (by have := hd36; omega) HR.out).mono ?_; rintro e V3 ⟨rfl, rfl⟩)
        | (at_builtin; obtain ⟨i0, hi, hz0, hz1, hz2⟩ := info_parts info_byte; refine wpList_append_own _ rfl _ _ 93 rfl w.heap.size 5 i0 (.int .u8 0) 1 1 Tryz.underlying93 hi hz0 hz1 hz2 rfl (by decide) _ _ _ rfl (HO2.out.alloc _) ⟨V2.heap.size, 0, none⟩ 1 1 [.int .u8 ((chr (m % b)).toNat : Int)] rfl rfl (cell_one_new _ _ _) (by simp [Value.oneCell']) (by unfold maxLen; omega) (by omega) (by have := HB2.out.size; simp; omega) ?_; intro v' w2 hown1 hgrow1 _; have HO3 := Lib.hid hown1; have HG2 := Lib.hid hgrow1; clear hi hz0 hz1 hz2 hown1 hgrow1))
      go_roundg (m / b)
      case measure => have h1 := HGK.out; have h2 := HM.out; rw [h1]; exact Nat.div_lt_self h2 HBB.out.1
      case rel =>
        have hbn := (HB2.out.alloc HB2.out.size (.cells #[.int .u8 ((chr (m % b)).toNat : Int)] 5)).grown HG2.out (by have := HB2.out.size; simp; omega) (fun k hk => (HO2.out.lt k hk).1)
        refine ⟨m / b, out ++ [chr (m % b)], rfl, ⟨?_, Nat.le_trans (Nat.div_le_self _ _) HG.out.2⟩, ?_, ?_, keep_cell hbn HPB.out, keep_cell hbn HC0.out, keep_cell hbn HC1.out, hbn⟩
        · refine dg_grown (by decide) HQ.out HG2.out (fun g hg e => ?_)
          have h1 := HFQ.out g hg
          have h2 := (HO.out.lt g e).2
          simp at h1
          omega
        · have := HO3.out
          rw [byte_push] at this
          rw [List.length_append, List.length_singleton]
          exact this
        · show _ = _
          rw [HE.out, bdig_pos HBB.out.1 HM.out, List.reverse_append, List.append_assoc]
          rfl

/-- What ToBase makes. -/
def toBaseOut (b : Nat) (x : Int) : Out := .ok (.string ⟨(btext b x).toArray⟩)
def tb1 (b : Nat) (zs : List Int) : Out := toBaseOut b (zs.headD 0)

theorem tobase1_c (lv : Value) (pb : Addr) (x : Int) (b : Nat) (w : World) (h : Whs w lv [x]) (ht : Tabs w) (hpb : w.cell? pb = some (.int .i64 (b : Int))) (hb : 2 ≤ b) (hb2 : b ≤ 36) (hx : x.natAbs < 10 ^ 200) :
    Calls Tryz.prog 197 #[lv, .pointer (some pb)] w fun e w' => e = (toBaseOut b x).end_ ∧ Below w.heap.size w w' := by
  by_cases h0 : x = 0
  · subst h0
    rw [show toBaseOut b 0 = .ok (.string ⟨#[48]⟩) from by unfold toBaseOut btext; rw [if_pos rfl]]
    exact tobase1_zero lv pb w h
  · exact tobase1_pos lv pb x b w h ht hpb hb hb2 hx h0

set_option maxHeartbeats 1000000 in
theorem numToBase_c (S : ByteArray) (b : Nat) (hb : 2 ≤ b) (hb2 : b ≤ 36) (w : World) (ht : Tabs w) : Calls Tryz.prog 150 #[.string S, .int .i64 (b : Int)] w (Un S (toBaseOut b) (.string ⟨#[]⟩) w) := by
  have HT := Lib.hid ht
  have HBB := Lib.hid (And.intro hb hb2)
  have h1 : decide ((b : Int) < 2) = false := by simp; omega
  have h2 : decide (36 < (b : Int)) = false := by simp; omega
  have h3 : ¬ (b : Int) < 2 := by omega
  have h4 : ¬ 36 < (b : Int) := by omega
  clear ht hb hb2
  go_enter Tryz.func150, Tryz.ntmps150
  go_wp2_with (go_at_call 147; refine (withStr_c 197 #[.pointer (some ⟨w.heap.size, 0, none⟩)] (enters_of Tryz.func197 (by kernel_rfl) rfl) _ [S] (tb1 b) _ (by have := strs_one (w.alloc (.cells #[.int .i64 (b : Int)] 3)) S 9; simpa using this) (by simp) ?hf).mono ?_)
  case hf =>
    intro zs hz W lv hb hw
    obtain ⟨x, rfl, hx⟩ := one_zs hz
    have hc : ((w.alloc (.cells #[.int .i64 (b : Int)] 3)).alloc (.cells #[.string S] 9)).cell? ⟨w.heap.size, 0, none⟩ = some (.int .i64 (b : Int)) := keep_cell ((Below.refl _ _).alloc (Nat.le_refl _) _) (new_cell w #[.int .i64 (b : Int)] 3 0)
    exact tobase1_c lv ⟨w.heap.size, 0, none⟩ x b W hw (HT.out.below (Below.trans (((Below.refl w.heap.size w).alloc (Nat.le_refl _) _).alloc (by simp) _) (hb.mono (by first | (simp; done) | (simp; omega) | omega)))) (keep_cell (by simpa using hb) hc) HBB.out.1 HBB.out.2 hx.2
  rintro e w' h
  obtain ⟨a, c, rfl, hr⟩ := with_one (f := toBaseOut b) (show WithP [S] (fun zs => toBaseOut b (zs.headD 0)) _ _ _ _ from h) (((Below.refl w.heap.size w).alloc (Nat.le_refl _) _).alloc (by simp) _)
  have HR := Lib.hid hr
  clear h hr
  go_wp2
  go_ret2
  exact HR.out

end Go.Proofs.YtekbfommnmikbaaGreatDoor

namespace Go.Proofs.YtekbfommnmikbaaGreatDoor
set_option linter.unusedVariables false
set_option linter.unusedSimpArgs false
open Go.RowKit Go.Shelf Go.Proofs

end Go.Proofs.YtekbfommnmikbaaGreatDoor

namespace Go.Proofs.YtekbfommnmikbaaGreatDoor
set_option linter.unusedVariables false
set_option linter.unusedSimpArgs false
open Go.RowKit Go.Shelf Go.Proofs

/-- The text of an integer that fits, else none; the error. -/
def txt (z : Int) : ByteArray := if z.natAbs < 10 ^ 200 then ⟨(Lib.itoa z).toArray⟩ else ⟨#[]⟩
def ern (z : Int) : Int := if z.natAbs < 10 ^ 200 then 0 else 3
theorem textOut_res (z : Int) : (textOut z).res (.string ⟨#[]⟩) = .tuple #[.string (txt z), .int .i64 (ern z)] := by
  unfold textOut txt ern
  by_cases h : z.natAbs < 10 ^ 200
  · rw [if_pos h, if_pos h, if_pos h]; rfl
  · rw [if_neg h, if_neg h, if_neg h]; rfl
theorem un_at {S : ByteArray} {f : Int → Out} {zv : Value} {w w' : World} {e : Ending} {x : Int} (h : Un S f zv w e w') (hx : NumL S.data.toList x) : e = .returned ((f x).res zv) ∧ Below w.heap.size w w' := by
  obtain ⟨h, hb⟩ := h
  rcases h with ⟨x', hx', rfl⟩ | ⟨hn, _⟩
  · rw [itoa_inj (hx.1.symm.trans hx'.1)]; exact ⟨rfl, hb⟩
  · exact absurd ⟨x, hx⟩ hn
theorem bi_at {S T : ByteArray} {f : Int → Int → Out} {zv : Value} {w w' : World} {e : Ending} {x y : Int} (h : Bi S T f zv w e w') (hx : NumL S.data.toList x) (hy : NumL T.data.toList y) : e = .returned ((f x y).res zv) ∧ Below w.heap.size w w' := by
  obtain ⟨h, hb⟩ := h
  rcases h with ⟨x', y', hx', hy', rfl⟩ | ⟨hn, _⟩
  · rw [itoa_inj (hx.1.symm.trans hx'.1), itoa_inj (hy.1.symm.trans hy'.1)]; exact ⟨rfl, hb⟩
  · exact absurd ⟨⟨x, hx⟩, y, hy⟩ hn

/-- A call answers with the text s and the error k. -/
def Ans (s : ByteArray) (k : Int) (w : World) (e : Ending) (w' : World) : Prop := e = .returned (.tuple #[.string s, .int .i64 k]) ∧ Below w.heap.size w w'
/-- A call answers with the int n and no error. -/
def AnsI (n : Int) (w : World) (e : Ending) (w' : World) : Prop := e = .returned (.tuple #[.int .i64 n, .int .i64 0]) ∧ Below w.heap.size w w'
theorem ans_mk {z : Int} {s : ByteArray} {k : Int} {w w' : World} {e : Ending} (h : e = .returned ((textOut z).res (.string ⟨#[]⟩)) ∧ Below w.heap.size w w') (hs : txt z = s) (hk : ern z = k) : Ans s k w e w' := by
  rw [textOut_res, hs, hk] at h; exact h

section
variable (S T : ByteArray) (x y : Int) (s : ByteArray) (k : Int) (w : World)
theorem law_add (hS : NumL S.data.toList x) (hT : NumL T.data.toList y) (hs : txt (x + y) = s) (hk : ern (x + y) = k) (ht : Tabs w) : Calls Tryz.prog 76 #[.string S, .string T] w (Ans s k w) :=
  (numAdd_c S T w ht).mono fun _ _ h => ans_mk (bi_at h hS hT) hs hk
theorem law_sub (hS : NumL S.data.toList x) (hT : NumL T.data.toList y) (hs : txt (x + -y) = s) (hk : ern (x + -y) = k) (ht : Tabs w) : Calls Tryz.prog 145 #[.string S, .string T] w (Ans s k w) :=
  (numSub_c S T w ht).mono fun _ _ h => ans_mk (bi_at h hS hT) hs hk
theorem law_abs (hS : NumL S.data.toList x) (hs : txt (x.natAbs : Int) = s) (hk : ern (x.natAbs : Int) = k) (ht : Tabs w) : Calls Tryz.prog 146 #[.string S] w (Ans s k w) :=
  (abs_c S w ht).mono fun _ _ h => ans_mk (z := (x.natAbs : Int)) (un_at (f := fun x => textOut (x.natAbs : Int)) h hS) hs hk
theorem law_cmp (hS : NumL S.data.toList x) (hT : NumL T.data.toList y) (ht : Tabs w) : Calls Tryz.prog 71 #[.string S, .string T] w (AnsI (sgn (x + -y)) w) :=
  (numCmp_c S T w ht).mono fun _ _ h => bi_at h hS hT
end

end Go.Proofs.YtekbfommnmikbaaGreatDoor

namespace Go.Proofs.YtekbfommnmikbaaGreatDoor
set_option linter.unusedVariables false
set_option linter.unusedSimpArgs false
open Go.RowKit Go.Shelf Go.Proofs

end Go.Proofs.YtekbfommnmikbaaGreatDoor

namespace Go.Proofs.YtekbfommnmikbaaGreatDoor
set_option linter.unusedVariables false
set_option linter.unusedSimpArgs false
open Go.RowKit Go.Shelf Go.Proofs

def tx (z : Int) : ByteArray := ⟨(Lib.itoa z).toArray⟩
/-- What a division makes. -/
def divOut (Q R y : Int) : Out := if y = 0 then .err 5 else if Q.natAbs < 10 ^ 200 then .ok (.agg #[.string (tx Q), .string (tx R)]) else .err 3

end Go.Proofs.YtekbfommnmikbaaGreatDoor

namespace Go.Proofs.YtekbfommnmikbaaGreatDoor
set_option linter.unusedVariables false
set_option linter.unusedSimpArgs false
open Go.RowKit Go.Shelf Go.Proofs

/-- Three results out of what a division makes. -/
def three : Out → Value
  | .ok (.agg #[a, b]) => .tuple #[a, b, .int .i64 0]
  | .ok v => v
  | .err k => .tuple #[.string ⟨#[]⟩, .string ⟨#[]⟩, .int .i64 k]
/-- What a division of two strings returns. -/
def DivA (S T : ByteArray) (Q R : Int → Int → Int) (w : World) (e : Ending) (w' : World) : Prop :=
  ((∃ x y, NumL S.data.toList x ∧ NumL T.data.toList y ∧ e = .returned (three (divOut (Q x y) (R x y) y))) ∨ ((¬ ((∃ x, NumL S.data.toList x) ∧ ∃ y, NumL T.data.toList y)) ∧ e = .returned (.tuple #[.string ⟨#[]⟩, .string ⟨#[]⟩, .int .i64 1]))) ∧ Below w.heap.size w w'
theorem DivA.more {S T : ByteArray} {Q R : Int → Int → Int} {w w1 w2 : World} {e : Ending} (h : DivA S T Q R w e w1) (hb : Below w1.heap.size w1 w2) : DivA S T Q R w e w2 := ⟨h.1, below_then' h.2 hb⟩
end Go.Proofs.YtekbfommnmikbaaGreatDoor

namespace Go.Proofs.YtekbfommnmikbaaGreatDoor
set_option linter.unusedVariables false
set_option linter.unusedSimpArgs false
open Go.RowKit Go.Shelf Go.Proofs

section
variable (S T : ByteArray) (x y n : Int) (s t : ByteArray) (k : Int) (w : World)
theorem law_tobase (b : Nat) (hS : NumL S.data.toList x) (hb : 2 ≤ b) (hb2 : b ≤ 36) (hs : ⟨(btext b x).toArray⟩ = s) (ht : Tabs w) : Calls Tryz.prog 150 #[.string S, .int .i64 (b : Int)] w (Ans s 0 w) :=
  (numToBase_c S b hb hb2 w ht).mono fun _ _ h => by
    have h1 := un_at h hS
    rw [← hs]
    exact h1
end
end Go.Proofs.YtekbfommnmikbaaGreatDoor

namespace Go.Proofs.YtekbfommnmikbaaGreatDoor
set_option linter.unusedVariables false
set_option linter.unusedSimpArgs false
open Go.RowKit Go.Shelf Go.Proofs

section
variable (S T : ByteArray) (x y g : Int) (w : World)
end
end Go.Proofs.YtekbfommnmikbaaGreatDoor
/- What eight listed variables give the walks; a world in which they lie meets the condition. -/
namespace Go.Proofs.YtekbfommnmikbaaGreatDoor
set_option linter.unusedVariables false
set_option linter.unusedSimpArgs false
open Go.ChangeShapes Go.WideShapes Go.ChangeAt Go.WideMaps Go.WideElems Go.RowKit

/-- The listed variables. -/
def laidD : List (String × DataW Unit) := [("math/bits.deBruijn32tab", Rows.laid_math_bits_deBruijn32tab), ("math/bits.deBruijn64tab", Rows.laid_math_bits_deBruijn64tab), ("internal/strconv.uint64pow10", Rows.laid_internal_strconv_uint64pow10), ("unicode/utf8.acceptRanges", Rows.laid_unicode_utf8_acceptRanges), ("strconv.ErrRange", Rows.laid_strconv_ErrRange), ("strconv.ErrSyntax", Rows.laid_strconv_ErrSyntax), ("mjolner/number.digit", Rows.laid_mjolner_number_digit), ("unicode/utf8.first", Rows.laid_unicode_utf8_first)]
/-- A world in which the listed variables lie meets the condition. -/
theorem door_metD (os : Os) (args : Array Value) : laidMetH Tryz.prog laidD ((World.laidAll Tryz.prog os laidD).forCall (fun _ _ => 0) ⟨#[], args, []⟩).memory := by
  rw [MakeChecks.laidMetH_plain _ _ _ (by kernel_rfl)]
  exact laidMet_laidAll _ (by kernel_rfl) (by kernel_rfl)
set_option maxRecDepth 100000 in
/-- What the walks ask of the variables. -/
theorem laidD_gives {W : World} (h : laidMetH Tryz.prog laidD W) : P10 W ∧ Tabs W := by
  rw [MakeChecks.laidMetH_plain _ _ _ (by kernel_rfl)] at h
  obtain ⟨ps, hv, _⟩ := h
  have r1 := reads_listed (n := "internal/strconv.uint64pow10") (d := Rows.laid_internal_strconv_uint64pow10) _ _ hv (by simp [laidD])
  have r2 := reads_listed (n := "mjolner/number.digit") (d := Rows.laid_mjolner_number_digit) _ _ hv (by simp [laidD])
  have r3 := reads_listed (n := "strconv.ErrRange") (d := Rows.laid_strconv_ErrRange) _ _ hv (by simp [laidD])
  have r4 := reads_listed (n := "strconv.ErrSyntax") (d := Rows.laid_strconv_ErrSyntax) _ _ hv (by simp [laidD])
  have hp : P10 W := tab_reads (k := .u64) (zs := Lib.pow10Tab) (t := 240) (e := 212) (m := 20) r1 (by kernel_rfl) (by kernel_rfl) (by kernel_rfl) (by kernel_rfl) (by kernel_rfl)
  refine ⟨hp, hp, ?_, ?_, ?_⟩
  · exact tab_reads (k := .u8) (t := 201) (e := 5) (m := 36) r2 (by kernel_rfl) (by kernel_rfl) (by kernel_rfl) (by kernel_rfl) (by kernel_rfl)
  · exact iface_reads (t := 169) r3 (by kernel_rfl) Tryz.underlying169
  · exact iface_reads (t := 169) r4 (by kernel_rfl) Tryz.underlying169
end Go.Proofs.YtekbfommnmikbaaGreatDoor
/- The reference of layer 1: natural numbers, integers. -/
namespace Go.Proofs.YtekbfommnmikbaaGreatDoor
set_option linter.unusedVariables false
set_option linter.unusedSimpArgs false
open Go.RowKit

attribute [local go_sem] max2_int min2_int max_two min_two
end Go.Proofs.YtekbfommnmikbaaGreatDoor

namespace Go.Proofs.YtekbfommnmikbaaGreatDoor
set_option linter.unusedVariables false
set_option linter.unusedSimpArgs false
open Go.RowKit

end Go.Proofs.YtekbfommnmikbaaGreatDoor

namespace Go.Proofs.YtekbfommnmikbaaGreatDoor
set_option linter.unusedVariables false
set_option linter.unusedSimpArgs false
open Go.RowKit

/-- v is the reference's integer z. -/
def Ri (w : World) (v : Value) (z : Int) : Prop := ∃ p, v = .agg #[p, .bool (decide (z < 0))] ∧ Dg 10 w p z.natAbs
theorem Ri.below {w w' : World} {v : Value} {z : Int} (h : Ri w v z) (hb : Below w.heap.size w w') : Ri w' v z := by
  obtain ⟨p, e, hp⟩ := h
  exact ⟨p, e, hp.below hb⟩
theorem Ri.form {w : World} {v : Value} {z : Int} (h : Ri w v z) : ∃ A n c b, v = .agg #[.slice A n c, .bool b] := by
  obtain ⟨p, rfl, A, c, rfl, _⟩ := h
  exact ⟨_, _, _, _, rfl⟩
end Go.Proofs.YtekbfommnmikbaaGreatDoor

namespace Go.Proofs.YtekbfommnmikbaaGreatDoor
set_option linter.unusedVariables false
set_option linter.unusedSimpArgs false
open Go.RowKit

end Go.Proofs.YtekbfommnmikbaaGreatDoor

namespace Go.Proofs.YtekbfommnmikbaaGreatDoor
set_option linter.unusedVariables false
set_option linter.unusedSimpArgs false
open Go.RowKit
attribute [local go_sem ↓] Go.wp_at_zero Go.wp_at_succ

/-- No whole number. -/
def NoI (v : Value) : Prop := ∀ kd z, v ≠ .int kd z
theorem box_put {w : World} {g : Nat} {cs : Array Value} {t : TypeId} {fz : Nat × Nat} (h : w.heap[g]? = some (.cells cs t fz)) (i : Nat) (v : Value) :
    (w.setCell ⟨g, i, none⟩ v).heap[g]? = some (.cells (cs.setIfInBounds i v) t fz) := by
  obtain ⟨hlt, h'⟩ := Array.getElem?_eq_some_iff.1 h
  show (w.heap.modify g _)[g]? = _
  rw [Array.getElem?_eq_getElem (by simpa using hlt), Array.getElem_modify_self, h']
  rfl
end Go.Proofs.YtekbfommnmikbaaGreatDoor

namespace Go.Proofs.YtekbfommnmikbaaGreatDoor
set_option linter.unusedVariables false
set_option linter.unusedSimpArgs false
open Go.RowKit
attribute [local go_sem ↓] Go.wp_at_zero Go.wp_at_succ

end Go.Proofs.YtekbfommnmikbaaGreatDoor

namespace Go.Proofs.YtekbfommnmikbaaGreatDoor
set_option linter.unusedVariables false
set_option linter.unusedSimpArgs false
open Go.RowKit Go.Shelf

end Go.Proofs.YtekbfommnmikbaaGreatDoor

namespace Go.Proofs.YtekbfommnmikbaaGreatDoor
set_option linter.unusedVariables false
set_option linter.unusedSimpArgs false
open Go.RowKit Go.Shelf

/-- A digit's value. -/
def dval (b : UInt8) : Int := (b.toNat : Int) - 48
theorem val_rev : ∀ {d : List UInt8}, (∀ b ∈ d, isDig b) → val 10 (d.map dval).reverse = (decVal d : Int)
  | [], _ => rfl
  | b :: t, h => by
    have hb := h b (List.mem_cons_self ..)
    have h1 := hb.1
    have e : decVal [b] = b.toNat - 48 := by simp [decVal]
    rw [List.map_cons, List.reverse_cons, val_snoc, val_rev (fun c hc => h c (List.mem_cons_of_mem _ hc)), show b :: t = [b] ++ t from rfl, decVal_append, e]
    simp only [List.length_reverse, List.length_map, dval]
    rw [Int.natCast_add, Int.natCast_mul, Int.natCast_pow, Int.natCast_sub h1, Int.mul_comm, Int.add_comm]
    rfl
theorem inR_rev {d : List UInt8} (h : ∀ b ∈ d, isDig b) : InR 10 (d.map dval).reverse := by
  intro x hx
  rw [List.mem_reverse, List.mem_map] at hx
  obtain ⟨b, hb, rfl⟩ := hx
  have h1 := (h b hb).1
  have h2 := (h b hb).2
  unfold dval
  constructor <;> omega
theorem at_list (S : ByteArray) (a : UInt8) (t : List UInt8) (h : S.data.toList = a :: t) : ∃ h0 : 0 < S.size, S[0] = a := by
  have hl : 0 < S.data.toList.length := by rw [h]; simp
  refine ⟨by rw [Array.length_toList] at hl; exact hl, ?_⟩
  have : S.data.toList[0]'hl = a := by simp [h]
  rw [← this]; rfl
theorem text_pos {S : ByteArray} {z : Int} (h : NumL S.data.toList z) (hz : ¬ z < 0) : (∃ h0 : 0 < S.size, S[0] ≠ 45) ∧ S.data.toList = Lib.decDigits z.natAbs := by
  have e : S.data.toList = Lib.decDigits z.natAbs := by rw [h.1, Lib.itoa, if_neg hz, show z.toNat = z.natAbs by omega]
  refine ⟨?_, e⟩
  cases hl : Lib.decDigits z.natAbs with
  | nil => exact absurd hl (decDigits_ne _)
  | cons a t =>
    obtain ⟨h0, ha⟩ := at_list _ _ _ (e.trans hl)
    refine ⟨h0, ?_⟩
    rw [ha]
    intro e
    have := (decDigits_dig z.natAbs a (by rw [hl]; simp)).1
    rw [e] at this
    simp at this
/-- The digits of D. -/
structure DecT (D : ByteArray) (n : Nat) : Prop where
  l_ : D.data.toList = Lib.decDigits n
  le : D.size ≤ 200
  dg : ∀ j (h : j < D.size), isDig D[j]
theorem decT {D : ByteArray} {n : Nat} (h : D.data.toList = Lib.decDigits n) (hn : n < 10 ^ 200) : DecT D n := by
  refine ⟨h, ?_, fun j hj => ?_⟩
  · have := (len200 n).2 hn
    rw [← h, Array.length_toList] at this
    exact this
  · exact decDigits_dig n _ (by rw [← h]; exact Array.getElem_mem_toList (xs := D.data) (i := j) hj)
theorem grown_put {w w1 : World} {v : Value} {B : Nat} {o : Obj} (hg : w.grownBy w1 v.ownBlock) (hb : w.heap[B]? = some o) (hv : v.ownBlock ≠ some B) : w1.heap[B]? = some o := by
  rw [hg.block B (Array.getElem?_eq_some_iff.1 hb).1 (Ne.symm hv)]; exact hb
theorem own_ne {w : World} {base : Nat} {e : TypeId} {size : Nat} {v : Value} {n : Nat} {xs : List Value} (h : w.ownsRow base e size v n xs) {B : Nat} (hB : B < base) : v.ownBlock ≠ some B := fun e => by
  have := (h.lt _ e).1
  omega
end Go.Proofs.YtekbfommnmikbaaGreatDoor
/- The reference of layer 1: texts, division, roots. -/
namespace Go.Proofs.YtekbfommnmikbaaGreatDoor
set_option linter.unusedVariables false
set_option linter.unusedSimpArgs false
open Go.RowKit Go.Shelf
attribute [local go_sem ↓] Go.wp_at_zero Go.wp_at_succ

end Go.Proofs.YtekbfommnmikbaaGreatDoor

namespace Go.Proofs.YtekbfommnmikbaaGreatDoor
set_option linter.unusedVariables false
set_option linter.unusedSimpArgs false
open Go.RowKit Go.Shelf

end Go.Proofs.YtekbfommnmikbaaGreatDoor

namespace Go.Proofs.YtekbfommnmikbaaGreatDoor
set_option linter.unusedVariables false
set_option linter.unusedSimpArgs false
open Go.RowKit Go.Shelf
attribute [local go_sem] max2_int min2_int max_two min_two

end Go.Proofs.YtekbfommnmikbaaGreatDoor

namespace Go.Proofs.YtekbfommnmikbaaGreatDoor
set_option linter.unusedVariables false
set_option linter.unusedSimpArgs false
open Go.RowKit

end Go.Proofs.YtekbfommnmikbaaGreatDoor

namespace Go.Proofs.YtekbfommnmikbaaGreatDoor
set_option linter.unusedVariables false
set_option linter.unusedSimpArgs false
open Go.RowKit Go.Shelf

/-- A pair of the reference's integers. -/
def Pr (w : World) (v : Value) (x y : Int) : Prop := ∃ p q b1 b2, v = .agg #[p, .bool b1, q, .bool b2] ∧ Ri w (.agg #[p, .bool b1]) x ∧ Ri w (.agg #[q, .bool b2]) y
theorem Pr.form {w : World} {v : Value} {x y : Int} (h : Pr w v x y) : ∃ A n c b A' n' c' b', v = .agg #[.slice A n c, .bool b, .slice A' n' c', .bool b'] := by
  obtain ⟨p, q, b1, b2, rfl, hp, hq⟩ := h
  obtain ⟨A, n, c, b, e⟩ := hp.form
  obtain ⟨A', n', c', b', e'⟩ := hq.form
  simp at e e'
  exact ⟨A, n, c, b1, A', n', c', b2, by rw [e.1, e'.1]⟩
theorem Pr.parts {w : World} {p q : Value} {b1 b2 : Bool} {x y : Int} (h : Pr w (.agg #[p, .bool b1, q, .bool b2]) x y) : Ri w (.agg #[p, .bool b1]) x ∧ Ri w (.agg #[q, .bool b2]) y := by
  obtain ⟨p', q', c1, c2, e, hp, hq⟩ := h
  simp at e
  obtain ⟨rfl, rfl, rfl, rfl⟩ := e
  exact ⟨hp, hq⟩
theorem Pr.below {w w' : World} {v : Value} {x y : Int} (h : Pr w v x y) (hb : Below w.heap.size w w') : Pr w' v x y := by
  obtain ⟨p, q, b1, b2, rfl, hp, hq⟩ := h
  exact ⟨p, q, b1, b2, rfl, hp.below hb, hq.below hb⟩
end Go.Proofs.YtekbfommnmikbaaGreatDoor

namespace Go.Proofs.YtekbfommnmikbaaGreatDoor
set_option linter.unusedVariables false
set_option linter.unusedSimpArgs false
open Go.RowKit Go.Shelf
attribute [local go_sem ↓] Go.wp_at_zero Go.wp_at_succ

/-- All that lay in V lies there still, but for block g. -/
structure BX (V : World) (g : Nat) (w : World) : Prop where
  size_ : V.heap.size ≤ w.heap.size
  same : ∀ b, b < V.heap.size → b ≠ g → w.heap[b]? = V.heap[b]?
theorem BX.refl (V : World) (g : Nat) : BX V g V := ⟨Nat.le_refl _, fun _ _ _ => rfl⟩
theorem BX.call {V w w' : World} {g : Nat} (h : BX V g w) (hb : Below w.heap.size w w') : BX V g w' :=
  ⟨Nat.le_trans h.size_ hb.size, fun b h1 h2 => (hb.block b (Nat.lt_of_lt_of_le h1 h.size_)).trans (h.same b h1 h2)⟩
theorem BX.drew {V w : World} {g : Nat} (h : BX V g w) : BX V g w.drew := h.call (Below.refl _ _).drew
theorem BX.alloc {V w : World} {g : Nat} (h : BX V g w) (o : Obj) : BX V g (w.alloc o) := h.call ((Below.refl _ _).alloc (Nat.le_refl _) o)
theorem BX.set {V w : World} {g : Nat} (h : BX V g w) (i : Nat) (v : Value) : BX V g (w.setCell ⟨g, i, none⟩ v) :=
  ⟨by simpa using h.size_, fun b h1 h2 => (Below.heap_setCell _ _ _ _ h2).trans (h.same b h1 h2)⟩
/-- A box of four cells, none of them a number. -/
def Bx4 (w : World) (g : Nat) : Prop := ∃ t x0 x1 x2 x3, w.heap[g]? = some (.cells #[x0, x1, x2, x3] t (0, 0)) ∧ NoI x0 ∧ NoI x1 ∧ NoI x2 ∧ NoI x3
theorem Bx4.call {w w' : World} {g : Nat} (h : Bx4 w g) (hb : Below w.heap.size w w') : Bx4 w' g := by
  obtain ⟨t, x0, x1, x2, x3, h, hs⟩ := h
  exact ⟨t, x0, x1, x2, x3, heap_below h hb, hs⟩
theorem Bx4.drew {w : World} {g : Nat} (h : Bx4 w g) : Bx4 w.drew g := h.call (Below.refl _ _).drew
theorem Bx4.alloc {w : World} {g : Nat} (h : Bx4 w g) (o : Obj) : Bx4 (w.alloc o) g := h.call ((Below.refl _ _).alloc (Nat.le_refl _) o)
theorem Bx4.lt {w : World} {g : Nat} (h : Bx4 w g) : g < w.heap.size := by
  obtain ⟨t, x0, x1, x2, x3, h, hs⟩ := h
  exact (Array.getElem?_eq_some_iff.1 h).1
theorem Bx4.free {w : World} {g : Nat} (h : Bx4 w g) (i : Nat) : w.frozen? ⟨g, i, none⟩ = false := by
  obtain ⟨t, x0, x1, x2, x3, h, hs⟩ := h
  exact free_of_heap h i
theorem Bx4.cells {w : World} {g : Nat} (h : Bx4 w g) : ∃ x0 x1 x2 x3, w.cell? ⟨g, 0, none⟩ = some x0 ∧ w.cell? ⟨g, 1, none⟩ = some x1 ∧ w.cell? ⟨g, 2, none⟩ = some x2 ∧ w.cell? ⟨g, 3, none⟩ = some x3 := by
  obtain ⟨t, x0, x1, x2, x3, h, hs⟩ := h
  exact ⟨x0, x1, x2, x3, cell_of_heap h 0, cell_of_heap h 1, cell_of_heap h 2, cell_of_heap h 3⟩
theorem Bx4.set {w : World} {g : Nat} (h : Bx4 w g) (i : Nat) {v : Value} (hv : NoI v) : Bx4 (w.setCell ⟨g, i, none⟩ v) g := by
  obtain ⟨t, x0, x1, x2, x3, h, n0, n1, n2, n3⟩ := h
  have h1 := box_put h i v
  match i with
  | 0 => exact ⟨t, v, x1, x2, x3, by simpa using h1, hv, n1, n2, n3⟩
  | 1 => exact ⟨t, x0, v, x2, x3, by simpa using h1, n0, hv, n2, n3⟩
  | 2 => exact ⟨t, x0, x1, v, x3, by simpa using h1, n0, n1, hv, n3⟩
  | 3 => exact ⟨t, x0, x1, x2, v, by simpa using h1, n0, n1, n2, hv⟩
  | i + 4 => exact ⟨t, x0, x1, x2, x3, by rw [h1]; simp [Array.setIfInBounds], n0, n1, n2, n3⟩
end Go.Proofs.YtekbfommnmikbaaGreatDoor

namespace Go.Proofs.YtekbfommnmikbaaGreatDoor
set_option linter.unusedVariables false
set_option linter.unusedSimpArgs false
open Go.RowKit Go.Shelf

end Go.Proofs.YtekbfommnmikbaaGreatDoor

namespace Go.Proofs.YtekbfommnmikbaaGreatDoor
set_option linter.unusedVariables false
set_option linter.unusedSimpArgs false
open Go.RowKit Go.Shelf

end Go.Proofs.YtekbfommnmikbaaGreatDoor
/- Plain mathematics: rounding keeps the order. No program in sight. -/
namespace Go.Proofs.YtekbfommnmikbaaGreatDoor
set_option linter.unusedVariables false
set_option linter.unusedSimpArgs false

end Go.Proofs.YtekbfommnmikbaaGreatDoor
/- Plain laws: rounded values with a sign, and the order of reals. -/
namespace Go.Proofs.YtekbfommnmikbaaGreatDoor
set_option linter.unusedVariables false
set_option linter.unusedSimpArgs false

/-- A magnitude and an exponent with a sign. -/
def sgo (s : Bool) : Option (Nat × Int) → Option (Int × Int)
  | some (m, x) => some (sgm s m, x)
  | none => none
/-- The rounded value of v times 10^e, with its sign. -/
def rndS (v e : Int) : Option (Int × Int) := sgo (decide (v < 0)) (rnd v.natAbs e)
theorem rndS_some {v e a b : Int} (h : rndS v e = some (a, b)) : ∃ m, rnd v.natAbs e = some (m, b) ∧ a = sgm (decide (v < 0)) m := by
  unfold rndS sgo at h
  split at h
  · rename_i m x hr
    cases h
    exact ⟨m, hr, rfl⟩
  · cases h
theorem rndS_valid {v e a b : Int} (h : rndS v e = some (a, b)) : RV a.natAbs b := by
  obtain ⟨m, hr, rfl⟩ := rndS_some h
  have := rnd_valid hr
  have e1 : (sgm (decide (v < 0)) (m : Int)).natAbs = m := by unfold sgm; split <;> omega
  rw [e1]; exact this
theorem rndS_mul (v : Int) (j : Nat) (e : Int) : rndS (v * 10 ^ j) (e - j) = rndS v e := by
  unfold rndS
  have hp : (0 : Int) < 10 ^ j := Int.pow_pos (by decide)
  have e1 : (v * 10 ^ j).natAbs = v.natAbs * 10 ^ j := by rw [Int.natAbs_mul, Int.natAbs_pow]; rfl
  have e2 : decide (v * 10 ^ j < 0) = decide (v < 0) := by
    apply decide_eq_decide.2
    constructor
    · intro h1
      by_cases h2 : v < 0
      · exact h2
      · have := Int.mul_nonneg (Int.not_lt.1 h2) (Int.le_of_lt hp); omega
    · intro h1; exact Int.mul_neg_of_neg_of_pos h1 hp
  rw [e1, e2, rnd_mul]
/-- The same at another scale. -/
theorem rndS_scale (v : Int) {e d : Int} (h : d ≤ e) : rndS (v * 10 ^ (e - d).toNat) d = rndS v e := by
  have := rndS_mul v (e - d).toNat e
  rwa [show e - ((e - d).toNat : Int) = d by omega] at this
theorem rndS_self {m e : Int} (h : RV m.natAbs e) : rndS m e = some (m, e) := by
  unfold rndS
  rw [rnd_self h]
  show some (sgm (decide (m < 0)) (m.natAbs : Int), e) = _
  congr 2
  unfold sgm
  by_cases h : m < 0
  · rw [if_pos (by simpa using h)]; omega
  · rw [if_neg (by simpa using h)]; omega
theorem rndS_zero (e : Int) : rndS 0 e = some (0, 0) := by unfold rndS; rw [Int.natAbs_zero, rnd_zero]; rfl
/-- A real as a multiple of the least power. -/
def vR (m e : Int) : Int := m * 10 ^ (e + 111).toNat
end Go.Proofs.YtekbfommnmikbaaGreatDoor
/- Plain mathematics: what is rounded may be cut behind 13 digits, if one more digit says that something was cut off. No program in sight. -/
namespace Go.Proofs.YtekbfommnmikbaaGreatDoor
set_option linter.unusedVariables false
set_option linter.unusedSimpArgs false

end Go.Proofs.YtekbfommnmikbaaGreatDoor
/- Plain laws of the root: what it is, and that it keeps the order. -/
namespace Go.Proofs.YtekbfommnmikbaaGreatDoor
set_option linter.unusedVariables false
set_option linter.unusedSimpArgs false

end Go.Proofs.YtekbfommnmikbaaGreatDoor
/- Plain laws: the operations on reals keep the order. -/
namespace Go.Proofs.YtekbfommnmikbaaGreatDoor
set_option linter.unusedVariables false
set_option linter.unusedSimpArgs false

/-- A result and its error. -/
def resS : Option (Int × Int) → Value
  | some (a, b) => .tuple #[.agg #[.int .i64 a, .int .i64 b], .int .i64 0]
  | none => .tuple #[.agg #[.int .i64 0, .int .i64 0], .int .i64 3]
theorem resR_sgo (s : Bool) (o : Option (Nat × Int)) : resR s o = resS (sgo s o) := by
  rcases o with _ | ⟨m, x⟩ <;> rfl
theorem resR_rndS (v e : Int) : resR (decide (v < 0)) (rnd v.natAbs e) = resS (rndS v e) := resR_sgo _ _
theorem RV_exp {m : Nat} {e : Int} (h : RV m e) : -111 ≤ e ∧ e ≤ 88 := by rcases h with ⟨_, rfl⟩ | ⟨_, _, h1, h2⟩ <;> omega
theorem vR_sign (m e : Int) : (0 ≤ m → 0 ≤ vR m e) ∧ (m < 0 → vR m e < 0) := by
  have hp : (0 : Int) < 10 ^ (e + 111).toNat := Int.pow_pos (by decide)
  exact ⟨fun h => Int.mul_nonneg h (Int.le_of_lt hp), fun h => Int.mul_neg_of_neg_of_pos h hp⟩
/-- The nearest multiple of 10^-p, as a number of them. -/
def rqN (n : Nat) (p : Int) : Nat := if p ≤ 111 then rdiv n (111 - p).toNat else n * 10 ^ (p - 111).toNat
def rqS (v p : Int) : Int := if v < 0 then -(rqN v.natAbs p : Int) else rqN v.natAbs p
theorem vR_abs {m e : Int} : (vR m e).natAbs = m.natAbs * 10 ^ (e + 111).toNat := by unfold vR; rw [Int.natAbs_mul, Int.natAbs_pow]; rfl
theorem vR_neg (m e : Int) : vR m e < 0 ↔ m < 0 := by
  have h := vR_sign m e
  constructor
  · intro h1
    by_cases h2 : m < 0
    · exact h2
    · have := h.1 (by omega); omega
  · exact h.2
/-- What is rounded to a multiple, where digits are cut. -/
theorem rqN_cut {m : Nat} {e p : Int} (he : -111 ≤ e) (h : 0 ≤ -p - e) : rqN (m * 10 ^ (e + 111).toNat) p = rdiv m (-p - e).toNat := by
  unfold rqN
  rw [if_pos (by omega), show (111 - p).toNat = (-p - e).toNat + (e + 111).toNat by omega, rdiv_mul]
theorem rqN_keep {m : Nat} {e p : Int} (he : -111 ≤ e) (h : -p - e ≤ 0) : rqN (m * 10 ^ (e + 111).toNat) p = m * 10 ^ (e + p).toNat := by
  unfold rqN
  by_cases hp : p ≤ 111
  · rw [if_pos hp]
    have e1 : m * 10 ^ (e + 111).toNat = m * 10 ^ (e + p).toNat * 10 ^ (111 - p).toNat := by
      rw [Nat.mul_assoc, ← Nat.pow_add]; congr 2; omega
    have := rdiv_mul (m * 10 ^ (e + p).toNat) 0 (111 - p).toNat
    rw [Nat.zero_add] at this
    rw [e1, this, rdiv_zero]
  · rw [if_neg hp, Nat.mul_assoc, ← Nat.pow_add]
    congr 2; omega
theorem rdiv_small {m k : Nat} (h : nd m < k) : rdiv m k = 0 := by
  have h1 := lt_nd m
  have h2 : 10 ^ nd m * 10 ≤ 10 ^ k := by
    rw [← Nat.pow_succ]; exact Nat.pow_le_pow_right (by decide) h
  unfold rdiv halfUp
  rw [Nat.div_eq_of_lt (by omega), Nat.mod_eq_of_lt (by omega), if_neg (by omega)]
theorem round_form {m e p : Int} (h : RV m.natAbs e) (h1 : ¬ (1000 < p ∨ p < -1000)) : roundR m e p = resS (rndS (rqS (vR m e) p) (-p)) := by
  unfold roundR
  have a := RV_exp h
  rw [if_neg (fun x => x h), if_neg h1]
  have hab : (rqS (vR m e) p).natAbs = rqN (m.natAbs * 10 ^ (e + 111).toNat) p := by
    unfold rqS; rw [vR_abs]; split <;> omega
  by_cases c1 : -p - e ≤ 0
  · rw [if_pos c1]
    have e1 : rqS (vR m e) p = m * 10 ^ (e + p).toNat := by
      unfold rqS
      rw [vR_abs, rqN_keep a.1 c1]
      have e2 : ((m.natAbs * 10 ^ (e + p).toNat : Nat) : Int) = (m.natAbs : Int) * 10 ^ (e + p).toNat := by rw [Int.natCast_mul, Int.natCast_pow]; rfl
      rw [e2]
      by_cases hm : m < 0
      · rw [if_pos ((vR_neg m e).2 hm), ← Int.neg_mul]; congr 1; omega
      · rw [if_neg (fun x => hm ((vR_neg m e).1 x))]; congr 1; omega
    rw [e1]
    have := rndS_scale m (show -p ≤ e by omega)
    rw [show e - -p = e + p by omega] at this
    rw [this, rndS_self h]
    rfl
  · rw [if_neg c1]
    have hcut := rqN_cut (m := m.natAbs) a.1 (show 0 ≤ -p - e by omega)
    rw [hcut] at hab
    by_cases c2 : (nd m.natAbs : Int) < -p - e
    · rw [if_pos c2]
      rw [rdiv_small (by omega)] at hab
      rw [show rqS (vR m e) p = 0 by omega, rndS_zero]
      rfl
    · rw [if_neg c2]
      unfold rndS
      rw [hab, resR_sgo]
      by_cases h0 : rdiv m.natAbs (-p - e).toNat = 0
      · rw [h0, rnd_zero]; unfold sgo sgm; simp
      · congr 2
        apply decide_eq_decide.2
        rw [← vR_neg m e]
        unfold rqS
        rw [vR_abs, hcut]
        split <;> omega
end Go.Proofs.YtekbfommnmikbaaGreatDoor
/- Package real: FromNumber, Floor. -/
namespace Go.Proofs.YtekbfommnmikbaaGreatDoor
set_option linter.unusedVariables false
set_option linter.unusedSimpArgs false
open Go.RowKit Go.Shelf Go.Proofs
attribute [local go_sem ↓] Go.wp_at_zero Go.wp_at_succ

/-- What FromNumber returns for an integer. -/
theorem vd_text {D : ByteArray} {n : Nat} (h : DecT D n) : vd (D.data.toList.map dval) = (n : Int) ∧ InR 10 (D.data.toList.map dval) := by
  have hd : ∀ b ∈ D.data.toList, isDig b := by rw [h.l_]; exact decDigits_dig n
  have h1 := val_rev hd
  rw [← vd_rev, List.reverse_reverse] at h1
  refine ⟨by rw [h1, h.l_, decVal_decDigits], ?_⟩
  have h2 := inR_rev hd
  exact fun x hx => h2 x (List.mem_reverse.2 hx)
theorem bytes_row {w : World} {g : Nat} {D : ByteArray} {cap : Nat} {t : TypeId} {fz : Nat × Nat} (h : w.heap[g]? = some (.cells (bytesRow D cap) t fz)) (j : Nat) (hj : j < D.size) : w.cell? ⟨g, j, none⟩ = some (.int .u8 (D[j].toNat : Int)) := by
  rw [cell_of_heap h]
  unfold bytesRow
  rw [Array.getElem?_append_left (by simpa using hj), Array.getElem?_map, Array.getElem?_eq_getElem hj]
  rfl

/-- The head of the amount that FromNumber makes. -/
def NumRes (S : ByteArray) (e : Ending) : Prop := (∃ z, NumL S.data.toList z ∧ e = .returned (resS (rndS z 0))) ∨ ((¬ ∃ z, NumL S.data.toList z) ∧ e = .returned (.tuple #[.agg #[.int .i64 0, .int .i64 0], .int .i64 1]))

set_option maxRecDepth 100000 in
set_option maxHeartbeats 8000000 in
theorem fromN_ok (S D : ByteArray) (s : Bool) (n : Nat) (R : Value) (w : World) (hv : ∃ z, NumL S.data.toList z) (hpre : Lib.hasPrefix S.data.toList [45] = s) (hD : (⟨(Lib.trimPrefix S.data.toList [45]).toArray⟩ : ByteArray) = D) (hd : DecT D n) (hR : resR s (rnd n 0) = R) :
    Calls Tryz.prog 63 #[.string S] w fun en w' => en = .returned R ∧ Below w.heap.size w w' := by
  obtain ⟨a', b', c', hf⟩ := res_form s (rnd n 0)
  rw [hf] at hR
  subst hR
  have HD := Lib.hid hD; have HPRE := Lib.hid hpre; have HV := Lib.hid hv; have HDT := Lib.hid hd
  have HR := Lib.hid hf
  have hs2 : D.size ≤ 200 := hd.le
  obtain ⟨I0, hi, hz0, hz1, hz3⟩ := info_parts info_byte
  have HI := Lib.hid (And.intro hi (And.intro hz0 (And.intro hz1 hz3)))
  have hconv := fun W : World => run_bytes_of_string (P := Tryz.prog) W 9 93 5 D Tryz.underlying9 Tryz.underlying93 Tryz.underlying5
  obtain ⟨cp, hcp⟩ : ∃ cp : World → Nat, (fun W : World => grownCap W D.size 0 5) = cp := ⟨_, rfl⟩
  have hcp' : ∀ W : World, grownCap W D.size 0 5 = cp W := fun W => congrFun hcp W
  simp only [hcp'] at hconv
  clear hcp hcp' hi hz0 hz1 hz3 hv hpre hD hd hf
  go_enter Tryz.func63, Tryz.ntmps63
  go_wp2_with (first
    | (go_at_call 62; (with_reducible refine (valid_c S _).mono ?_); rintro e W2 ⟨⟨b, rfl, hb⟩, hbz⟩; have hbt : b = true := hb.2 HV.out; subst hbt; have HB2 := Lib.hid hbz; have HX2 := Lib.hid (heapB hbz (heap_alloc_new _ _)); clear hb hbz)
    | (go_at_call 136; (with_reducible refine (Tryz.strings_CutPrefix S _ _).mono ?_); rintro e W3 ⟨rfl, rfl⟩; rw [show (ByteArray.mk #[45]).data.toList = [45] from rfl, HD.out, HPRE.out]))
  obtain ⟨B, hB⟩ : ∃ B, W3.heap.size = B := ⟨_, rfl⟩
  have HBW : Hid (Below w.heap.size w W3) := below_then' ((Below.refl _ _).alloc (Nat.le_refl _) _) HB2.out
  have hwB : w.heap.size < B := by have := HB2.out.size; simp at this; omega
  have HBE := Lib.hid hB
  obtain ⟨cc, hcc⟩ : ∃ cc, cp (W3.alloc (.cells #[.bool s, .slice none 0 0, .int .i64 0, .bool false] 95)) = cc := ⟨_, rfl⟩
  rw [hcc, hB]
  clear hcc hconv hB
  go_loopg [24] D.size (fun g i wr => ∃ (k : Nat) (v : Value), i = .int .i64 (k : Int) ∧ k + g = D.size ∧ Hid (wr.heap[w.heap.size]? = some (.cells #[.int .i64 0, .int .i64 0] 23 (0, 0))) ∧ Hid (wr.heap[B]? = some (.cells #[.bool s, v, .int .i64 0, .bool false] 95 (0, 0))) ∧ Hid (∃ fz, wr.heap[B + 1]? = some (.cells (bytesRow D cc) 5 fz)) ∧ B + 1 < wr.heap.size ∧ Hid (wr.ownsRow (B + 2) 5 1 v k (((D.data.toList.take k).map dval).map (Value.int .u8))) ∧ Hid (Below w.heap.size w wr))
  case atStart =>
    refine ⟨0, .slice none 0 0, rfl, by omega, heap_old _ (heap_old _ HX2.out), heap_old _ (heap_new' _ _ _ HBE.out.symm), ⟨_, heap_new' _ _ _ (by simp; exact HBE.out.symm)⟩, by simp; have := HBE.out; omega, World.ownsRow_nil _ _ _ _, ?_⟩
    exact ((HBW.out.alloc HBW.out.size _).alloc (by simp; have := HBW.out.size; omega) _).drew
  case round =>
    obtain ⟨k, v, rfl, hkg, HX, HA, HY, hszB, HOW, HB⟩ := hrel
    have hxB := cell_of_heap HX.out 0; have hxB1 := cell_of_heap HX.out 1
    have a0 := cell_of_heap HA.out 0; have a1 := cell_of_heap HA.out 1; have a2 := cell_of_heap HA.out 2; have a3 := cell_of_heap HA.out 3
    have af := free_of_heap HA.out 1
    simp at hxB hxB1 a0 a1 a2 a3
    by_cases hg : gk = 0
    · obtain rfl : k = D.size := by omega
      obtain ⟨hvd, hin⟩ := vd_text HDT.out
      obtain ⟨A9, c9, e9, hlc, hcm, hrow, hln⟩ := own_row HOW.out
      rw [List.take_of_length_le (by simp)] at e9 hlc hrow hln
      obtain ⟨xs, hxs⟩ : ∃ xs, D.data.toList.map dval = xs := ⟨_, rfl⟩
      rw [hxs] at hvd hin e9 hlc hrow hln
      subst e9
      have hcm' : c9 ≤ 9223372036854775807 := by unfold maxLen at hcm; omega
      have HRD := Lib.hid (rounded_c s A9 c9 xs 0 false wr hrow hlc hcm' hin (by omega) (by decide) (by decide))
      rw [show withMore xs false = xs from rfl, show expMore 0 false = 0 from rfl, hvd, Int.toNat_natCast, HR.out] at HRD
      have hf0 := free_of_heap HX.out 0; have hf1 := free_of_heap HX.out 1
      clear hvd hin hlc hrow hxs hg hkg
      rw [hln] at HRD a1
      have HLN := Lib.hid hln
      clear hln
      go_wp2_with (go_at_call 88; (with_reducible refine (HRD.out).mono ?_); rintro en w5 ⟨rfl, hbz⟩; have hhx := heapB hbz HX.out; have x0 := cell_of_heap hhx 0; have x1 := cell_of_heap hhx 1; have y0 := free_of_heap hhx 0; have y1 := free_of_heap hhx 1; simp at x0 x1; have HX5 := Lib.hid hhx; have HB5 := Lib.hid (belowT HB.out hbz); clear hbz hhx)
      have h9 := putB (putB HX5.out 0 (.int .i64 a')) 1 (.int .i64 b')
      have r0 := cell_of_heap h9 0; have r1 := cell_of_heap h9 1
      simp at r0 r1
      refine bodyPost_ret (v := .tuple #[.agg #[.int .i64 a', .int .i64 b'], .int .i64 c']) (by simp [results, Tryz.results63, go_sem, r0, r1]) rfl ?_
      exact ⟨rfl, (HB5.out.setCell (p := ⟨w.heap.size, 0, none⟩) (Nat.le_refl _) _).setCell (p := ⟨w.heap.size, 1, none⟩) (Nat.le_refl _) _⟩
    · obtain ⟨g, rfl⟩ : ∃ g, gk = g + 1 := ⟨gk - 1, by omega⟩
      have hk : k < D.size := by omega
      obtain ⟨fz, hY⟩ := HY.out
      have hb := bytes_row hY k hk
      have hd0 : 48 ≤ D[k].toNat := (HDT.out.dg k hk).1
      have hd1 : D[k].toNat ≤ 57 := (HDT.out.dg k hk).2
      have hwr1 : IntKind.u8.wrap ((D[k].toNat : Int) - 48) = (D[k].toNat : Int) - 48 := by rw [show IntKind.u8.wrap ((D[k].toNat : Int) - 48) = ((D[k].toNat : Int) - 48) % 256 from rfl]; omega
      have HST : Hid ((D.data.toList.take (k + 1)).map dval = (D.data.toList.take k).map dval ++ [(D[k].toNat : Int) - 48]) := by
        show _ = _
        rw [List.take_succ_eq_append_getElem (by simpa using hk), List.map_append]; rfl
      have HNE := Lib.hid (own_ne HOW.out (B := B) (by omega))
      have HNE0 := Lib.hid (own_ne HOW.out (B := w.heap.size) (by omega))
      have HNE1 := Lib.hid (own_ne HOW.out (B := B + 1) (by omega))
      have HFZ := Lib.hid hY
      clear hY hg
      go_wp2_with (at_builtin; refine wpList_append_lies _ rfl _ _ 93 rfl (B + 2) 5 I0 (.int .u8 0) 1 1 Tryz.underlying93 HI.out.1 HI.out.2.1 HI.out.2.2.1 HI.out.2.2.2 rfl (by decide) _ _ _ rfl (HOW.out.alloc _) ⟨wr.heap.size, 0, none⟩ 1 1 [.int .u8 ((D[k].toNat : Int) - 48)] rfl rfl (cell_one_new _ _ _) (by simp [Value.oneCell']) (by omega) (by unfold maxLen; omega) (by omega) (by simp; omega) _ rfl ?_; intro gg cap w1 hown1 hgrow1 hat hlt1; have HXA := Lib.hid (grown_put hgrow1 (heap_old _ HA.out) HNE.out); have HXX := Lib.hid (grown_put hgrow1 (heap_old _ HX.out) HNE0.out); have HXY := Lib.hid (grown_put hgrow1 (heap_old _ HFZ.out) HNE1.out); have b1 := cell_of_heap HXA.out 1; have f1 := free_of_heap HXA.out 1; simp at b1; have HO1 := Lib.hid hown1; have HG1 := Lib.hid hgrow1; clear hown1 hgrow1)
      go_roundg g
      case measure => omega
      case rel =>
        refine ⟨k + 1, .slice (some ⟨gg, 0, none⟩) (k + 1) cap, by go_num, by omega, ?_, box_put HXA.out 1 _, ⟨fz, ?_⟩, ?_, ?_, ?_⟩
        · exact (Below.heap_setCell _ _ _ _ (by simp; omega)).trans HXX.out
        · exact (Below.heap_setCell _ _ _ _ (by simp)).trans HXY.out
        · have := HG1.out.size; simp at this ⊢; omega
        · have h1 := own_setCell_other HO1.out ⟨B, 1, none⟩ (.slice (some ⟨gg, 0, none⟩) (k + 1) cap) (own_ne HO1.out (by simp))
          rw [HST.out, List.map_append]; exact h1
        · exact (((HB.out.alloc HB.out.size _).grown HG1.out (by simp; have := HB.out.size; omega) ((own_from HOW.out).mono (by omega))).setCell (p := ⟨B, 1, none⟩) (by simp; omega) _)

set_option maxRecDepth 100000 in
set_option maxHeartbeats 4000000 in
theorem fromN_c (S : ByteArray) (w : World) : Calls Tryz.prog 63 #[.string S] w fun en w' => NumRes S en ∧ Below w.heap.size w w' := by
  by_cases hv : ∃ z, NumL S.data.toList z
  · obtain ⟨z, hz⟩ := hv
    have key : ∀ (D : ByteArray) (s : Bool), Lib.hasPrefix S.data.toList [45] = s → (⟨(Lib.trimPrefix S.data.toList [45]).toArray⟩ : ByteArray) = D → D.data.toList = Lib.decDigits z.natAbs → s = decide (z < 0) → Calls Tryz.prog 63 #[.string S] w fun en w' => NumRes S en ∧ Below w.heap.size w w' := by
      intro D s h1 h2 h3 h4
      refine (fromN_ok S D s z.natAbs _ w ⟨z, hz⟩ h1 h2 (decT h3 hz.2) rfl).mono ?_
      rintro en w' ⟨rfl, hb⟩
      refine ⟨.inl ⟨z, hz, ?_⟩, hb⟩
      rw [h4, resR_rndS]
    have hpre : ∀ l : List UInt8, Lib.hasPrefix (45 :: l) [45] = true := fun l => by simp [Lib.hasPrefix]
    have htrim : ∀ l : List UInt8, Lib.trimPrefix (45 :: l) [45] = l := fun l => by simp [Lib.trimPrefix, hpre]
    have hpre2 : ∀ l : List UInt8, l.head? ≠ some 45 → Lib.hasPrefix l [45] = false := fun l h => by
      cases l with
      | nil => simp [Lib.hasPrefix]
      | cons a t =>
        have ha : ((45 : UInt8) == a) = false := by rw [beq_eq_false_iff_ne]; exact fun e => h (by rw [← e]; rfl)
        simp [Lib.hasPrefix, List.isPrefixOf, ha]
    by_cases h0 : z < 0
    · have e : S.data.toList = 45 :: Lib.decDigits z.natAbs := by rw [hz.1, Lib.itoa, if_pos h0]
      refine key ⟨(Lib.decDigits z.natAbs).toArray⟩ true ?_ ?_ ?_ ?_
      · rw [e]; exact hpre _
      · rw [e, htrim]
      · simp
      · exact (decide_eq_true h0).symm
    · obtain ⟨_, e⟩ := text_pos hz h0
      have hh : (Lib.decDigits z.natAbs).head? ≠ some 45 := by
        intro h
        cases hl : Lib.decDigits z.natAbs with
        | nil => rw [hl] at h; cases h
        | cons a t =>
          rw [hl] at h
          cases h
          have := (decDigits_dig z.natAbs 45 (by rw [hl]; simp)).1
          simp at this
      refine key ⟨(Lib.decDigits z.natAbs).toArray⟩ false ?_ ?_ ?_ ?_
      · rw [e]; exact hpre2 _ hh
      · rw [e]; simp [Lib.trimPrefix, hpre2 _ hh]
      · simp
      · exact (decide_eq_false h0).symm
  · have HV := Lib.hid hv
    obtain ⟨W, hW, k0⟩ : ∃ W, w.alloc (.cells #[.int .i64 0, .int .i64 0] 23) = W ∧ W.heap[w.heap.size]? = some (.cells #[.int .i64 0, .int .i64 0] 23 (0, 0)) := ⟨_, rfl, heap_alloc_new _ _⟩
    have hbel : Below w.heap.size w W := by rw [← hW]; exact (Below.refl _ _).alloc (Nat.le_refl _) _
    have FIN := fin2 k0 (Nat.le_refl _) hbel
    have BOX := box2 k0
    clear k0 hbel hv
    go_enter Tryz.func63, Tryz.ntmps63
    go_wp2_with (go_at_call 62; (with_reducible refine (valid_c S _).mono ?_); rintro e W2 ⟨⟨b, rfl, hb⟩, hbz⟩; have hbt : b = false := (by cases b; rfl; exact absurd (hb.1 rfl) HV.out); subst hbt; have HB2 := Lib.hid hbz; obtain ⟨x0, x1, y0, y1⟩ := BOX.out _ hbz; clear hb hbz)
    obtain ⟨r0, r1, hbb⟩ := FIN.out _ 0 0 HB2.out
    refine bodyPost_ret (v := .tuple #[.agg #[.int .i64 0, .int .i64 0], .int .i64 1]) (by simp [results, Tryz.results63, go_sem, r0, r1]) rfl ?_
    exact ⟨.inr ⟨HV.out, rfl⟩, hbb⟩
end Go.Proofs.YtekbfommnmikbaaGreatDoor
/- Plain laws: the root keeps the order; the floor. -/
namespace Go.Proofs.YtekbfommnmikbaaGreatDoor
set_option linter.unusedVariables false
set_option linter.unusedSimpArgs false

/-- The floor of a real. -/
def floorV (m e : Int) : Int := if 0 ≤ e then m * 10 ^ e.toNat else m.fdiv (10 ^ (-e).toNat)
end Go.Proofs.YtekbfommnmikbaaGreatDoor
/- Package real: Floor. -/
namespace Go.Proofs.YtekbfommnmikbaaGreatDoor
set_option linter.unusedVariables false
set_option linter.unusedSimpArgs false
open Go.RowKit Go.Shelf Go.Proofs
attribute [local go_sem ↓] Go.wp_at_zero Go.wp_at_succ
attribute [local go_sem] max2_int min2_int max_two min_two

theorem fromIntP_c (n : Int) (w : World) (h0 : -9223372036854775808 ≤ n) (h1 : n ≤ 9223372036854775807) (ht : P10 w) : Calls Tryz.prog 82 #[.int .i64 n] w fun e w' => e = .returned (.string ⟨(Lib.itoa n).toArray⟩) ∧ Below w.heap.size w w' := by
  have HI := Lib.hid (itoaR_c n w h0 h1 ht)
  clear ht
  go_enter Tryz.func82, Tryz.ntmps82
  go_wp2_with (go_at_call 99; (with_reducible refine HI.out.mono ?_); rintro e w' ⟨rfl, hb⟩; have HB := Lib.hid hb; clear hb)
  go_ret
  exact ⟨rfl, HB.out⟩

theorem itoa_zeros {m : Int} (h : m ≠ 0) (e : Nat) : Lib.itoa m ++ Lib.repeatL [48] e = Lib.itoa (m * 10 ^ e) := by
  have hp : (0 : Int) < 10 ^ e := Int.pow_pos (by decide)
  have hd : ∀ v : Nat, 0 < v → Lib.decDigits (v * 10 ^ e) = Lib.decDigits v ++ Lib.repeatL [48] e := fun v hv => by
    have := decDigits_shift e 0 v hv (Nat.pow_pos (by decide))
    rw [Nat.zero_add, Nat.mul_comm, pad_zero] at this
    exact this
  unfold Lib.itoa
  by_cases h0 : m < 0
  · have h1 := Int.mul_neg_of_neg_of_pos h0 hp
    rw [if_pos h0, if_pos h1, show (m * 10 ^ e).natAbs = m.natAbs * 10 ^ e by rw [Int.natAbs_mul, Int.natAbs_pow]; rfl, hd _ (by omega)]
    rfl
  · have h1 := Int.mul_nonneg (Int.not_lt.1 h0) (Int.le_of_lt hp)
    rw [if_neg h0, if_neg (by omega)]
    have e1 : (m * 10 ^ e).toNat = m.toNat * 10 ^ e := by
      obtain ⟨k, rfl⟩ := Int.eq_ofNat_of_zero_le (Int.not_lt.1 h0)
      rw [show ((k : Int) * 10 ^ e) = ((k * 10 ^ e : Nat) : Int) by rw [Int.natCast_mul, Int.natCast_pow]; rfl]
      rfl
    rw [e1, hd _ (by omega)]
/-- A quotient, rounded down, by Go's operators. -/
theorem floor_by {m P : Int} (hP : 0 < P) : (if m.tmod P < 0 then m.tdiv P - 1 else m.tdiv P) = m.fdiv P := by
  have h1 := Int.mul_tdiv_add_tmod m P
  have h2 := Int.mul_fdiv_add_fmod m P
  have h3 := Int.fmod_nonneg_of_pos m hP
  have h4 := Int.fmod_lt_of_pos m hP
  have h5 : -P < m.tmod P ∧ m.tmod P < P := by
    have a := Int.tmod_lt_of_pos m hP
    have b := Int.tmod_lt_of_pos (-m) hP
    rw [Int.neg_tmod] at b
    omega
  generalize m.tdiv P = q at *
  generalize m.tmod P = r at *
  generalize m.fdiv P = f at *
  generalize m.fmod P = s at *
  have key : ∀ {a b : Int}, P * a < P * b + P → a ≤ b := by
    intro a b h
    have : P * a < P * (b + 1) := by rw [Int.mul_add, Int.mul_one]; exact h
    have := Int.lt_of_mul_lt_mul_left this (Int.le_of_lt hP)
    omega
  by_cases hr : r < 0
  · rw [if_pos hr]
    have a1 : f ≤ q - 1 := key (by rw [Int.mul_sub, Int.mul_one]; omega)
    have a2 : q - 1 ≤ f := key (by rw [Int.mul_sub, Int.mul_one]; omega)
    omega
  · rw [if_neg hr]
    have a1 : f ≤ q := key (by omega)
    have a2 : q ≤ f := key (by omega)
    omega
theorem floor_far {m : Int} {k : Nat} (h : m.natAbs < 10 ^ 12) (hk : 12 ≤ k) : m.fdiv (10 ^ 12) = m.fdiv (10 ^ k) := by
  have hp : (0 : Int) < 10 ^ 12 := by decide
  have hq : (0 : Int) < 10 ^ k := Int.pow_pos (by decide)
  have hle : (10 : Int) ^ 12 ≤ 10 ^ k := pow_mono' (b := 10) (by decide) hk
  have he : (10 : Int) ^ 12 = 1000000000000 := by decide
  have hn : (10 : Nat) ^ 12 = 1000000000000 := by decide
  rw [Int.fdiv_eq_ediv_of_nonneg _ (Int.le_of_lt hp), Int.fdiv_eq_ediv_of_nonneg _ (Int.le_of_lt hq)]
  by_cases h0 : m < 0
  · have e1 : ∀ P : Int, 1000000000000 ≤ P → m / P = -1 := by
      intro P hP
      have a := Int.ediv_mul_add_emod m P
      have b := Int.emod_nonneg m (show P ≠ 0 by omega)
      have c := Int.emod_lt_of_pos m (show 0 < P by omega)
      generalize m / P = q at *
      generalize m % P = r at *
      have q1 : q < 0 := by
        by_cases hq0 : q < 0
        · exact hq0
        · have := Int.mul_nonneg (Int.not_lt.1 hq0) (show 0 ≤ P by omega); omega
      have q2 : -2 < q := by
        by_cases hq0 : -2 < q
        · exact hq0
        · have := Int.mul_le_mul_of_nonneg_right (show q ≤ -2 by omega) (show 0 ≤ P by omega); omega
      omega
    rw [e1 _ (by omega), e1 _ (by omega)]
  · rw [Int.ediv_eq_zero_of_lt (by omega) (by omega), Int.ediv_eq_zero_of_lt (by omega) (by omega)]

/-- What Floor returns. -/
def floorR (m e : Int) : Value := if RV m.natAbs e then .tuple #[.string ⟨(Lib.itoa (floorV m e)).toArray⟩, .int .i64 0] else .tuple #[.string ⟨#[]⟩, .int .i64 1]

set_option maxRecDepth 100000 in
set_option maxHeartbeats 4000000 in
theorem floorR_c (m e : Int) (w : World) (h0 : -9223372036854775808 ≤ m) (h1 : m ≤ 9223372036854775807) (ht : P10 w) :
    Calls Tryz.prog 64 #[.agg #[.int .i64 m, .int .i64 e]] w fun en w' => en = .returned (floorR m e) ∧ Below w.heap.size w w' := by
  obtain ⟨W, hW, k0⟩ : ∃ W, w.alloc (.cells #[.int .i64 m, .int .i64 e] 23) = W ∧ W.heap[w.heap.size]? = some (.cells #[.int .i64 m, .int .i64 e] 23 (0, 0)) := ⟨_, rfl, heap_alloc_new _ _⟩
  have hbel : Below w.heap.size w W := by rw [← hW]; exact (Below.refl _ _).alloc (Nat.le_refl _) _
  have HBEL := Lib.hid hbel
  have HT := Lib.hid (ht.below hbel)
  obtain ⟨c0, c1⟩ := two_cells k0
  have HV := Lib.hid (fun w' => validR_c m e w' h0 h1)
  clear k0 hbel ht
  unfold floorR
  by_cases h : RV m.natAbs e
  rotate_left
  · rw [if_neg h]
    rw [show decide (RV m.natAbs e) = false from decide_eq_false h] at HV
    clear h
    go_enter Tryz.func64, Tryz.ntmps64
    go_wp2_with (go_at_call 33; (with_reducible refine (HV.out _).mono ?_); rintro en w2 ⟨rfl, hbz⟩; have HB := Lib.hid hbz; clear hbz)
    go_ret2
    exact ⟨rfl, belowT HBEL.out HB.out⟩
  rw [if_pos h]
  rw [show decide (RV m.natAbs e) = true from decide_eq_true h] at HV
  obtain ⟨x0, x1, x2⟩ := RV_abs h
  by_cases he : 0 ≤ e
  · have hfl : floorV m e = m * 10 ^ e.toNat := by unfold floorV; rw [if_pos he]
    rw [hfl]
    obtain ⟨k, rfl⟩ := Int.eq_ofNat_of_zero_le he
    rw [Int.toNat_natCast]
    have HFI := Lib.hid (fun w' ht => fromIntP_c m w' h0 h1 ht)
    by_cases hm : m = 0
    · subst hm
      have hs : Lib.itoa (0 * 10 ^ k) = Lib.itoa 0 := by rw [Int.zero_mul]
      rw [hs]
      clear h hfl hs x0
      go_enter Tryz.func64, Tryz.ntmps64
      go_wp2_with (first
        | (go_at_call 33; (with_reducible refine (HV.out _).mono ?_); rintro en w2 ⟨rfl, hbz⟩; have c0 := keep_cell hbz c0; have c1 := keep_cell hbz c1; have HB := Lib.hid hbz; clear hbz)
        | (go_at_call 82; (with_reducible refine (HFI.out _ (HT.out.below HB.out)).mono ?_); rintro en w3 ⟨rfl, hbz⟩; have c0 := keep_cell hbz c0; have c1 := keep_cell hbz c1; have HB := Lib.hid (belowT HB.out hbz); clear hbz))
      go_ret2
      exact ⟨rfl, belowT HBEL.out HB.out⟩
    · have HS := Lib.hid (itoa_zeros hm k)
      have hmb : (m != 0) = true := by simpa using hm
      have HRP := Lib.hid (fun w' => Tryz.strings_Repeat ⟨#[48]⟩ k w' (by omega) (by show 1 * k ≤ _; omega))
      have hl1 := Lib.itoa_length_le m (by omega) (by omega)
      obtain ⟨S1, hS1⟩ : ∃ S, (⟨(Lib.itoa m).toArray⟩ : ByteArray) = S := ⟨_, rfl⟩
      obtain ⟨S2, hS2⟩ : ∃ S, (⟨(Lib.repeatL (ByteArray.mk #[48]).data.toList k).toArray⟩ : ByteArray) = S := ⟨_, rfl⟩
      have hz1 : S1.size = (Lib.itoa m).length := by rw [← hS1]; simp [ByteArray.size]
      have hz2 : S2.size = k := by rw [← hS2]; simp [ByteArray.size, Lib.repeatL_length]
      obtain ⟨i, hi⟩ : ∃ i, (Lib.itoa m).length = i := ⟨_, rfl⟩
      rw [hi] at hz1 hl1
      obtain ⟨J, hJ, hsJ, hlJ⟩ := cat2 S1 S2 hz1 hz2
      have HJL : Hid (J = ⟨(Lib.itoa (m * 10 ^ k)).toArray⟩) := by
        show _ = _
        rw [← HS.out]
        have : J.data.toList = Lib.itoa m ++ Lib.repeatL [48] k := by rw [hlJ, ← hS1, ← hS2]
        cases J with
        | mk d => cases d; simp at this; rw [this]
      rw [hS1] at HFI
      rw [hS2] at HRP
      clear h hfl hm hi hS1 hS2 hlJ
      go_enter Tryz.func64, Tryz.ntmps64
      go_wp2_with (first
        | (go_at_call 33; (with_reducible refine (HV.out _).mono ?_); rintro en w2 ⟨rfl, hbz⟩; have c0 := keep_cell hbz c0; have c1 := keep_cell hbz c1; have HB := Lib.hid hbz; clear hbz)
        | (go_at_call 82; (with_reducible refine (HFI.out _ (HT.out.below HB.out)).mono ?_); rintro en w3 ⟨rfl, hbz⟩; have c0 := keep_cell hbz c0; have c1 := keep_cell hbz c1; have HB := Lib.hid (belowT HB.out hbz); clear hbz)
        | (go_at_call 101; (with_reducible refine (HRP.out _).mono ?_); rintro en w6 ⟨rfl, hbz⟩; have HB := Lib.hid (belowT HB.out hbz); clear hbz))
      go_ret2
      exact ⟨by rw [HJL.out]; rfl, belowT HBEL.out HB.out⟩
  · obtain ⟨K, hK⟩ : ∃ K : Nat, (if (12 : Int) < -e then 12 else -e) = (K : Int) := ⟨(if (12 : Int) < -e then 12 else -e).toNat, by split <;> omega⟩
    have hK12 : K ≤ 12 := by split at hK <;> omega
    have hfl : floorV m e = m.fdiv (10 ^ K) := by
      unfold floorV
      rw [if_neg he]
      by_cases h12 : (12 : Int) < -e
      · rw [if_pos h12] at hK
        obtain rfl : K = 12 := by omega
        exact (floor_far (by have : (10 : Nat) ^ 12 = 1000000000000 := by decide
                             omega) (by omega)).symm
      · rw [if_neg h12] at hK
        congr 2
        omega
    rw [hfl]
    have HBM := Lib.hid (fun P hP => @floor_by m P hP)
    clear hfl h
    go_enter Tryz.func64, Tryz.ntmps64
    go_wp2_with (go_at_call 33; (with_reducible refine (HV.out _).mono ?_); rintro en w2 ⟨rfl, hbz⟩; have c0 := keep_cell hbz c0; have c1 := keep_cell hbz c1; have HB := Lib.hid hbz; clear hbz)
    clear hK
    go_loopg [5, 29] K (fun g p i wr => ∃ (k : Nat) (P : Int), i = .int .i64 (k : Int) ∧ p = .int .i64 P ∧ k + g = K ∧ Hid (P = 10 ^ k) ∧ w2 = wr)
    case atStart => exact ⟨0, 1, rfl, rfl, by omega, rfl, rfl⟩
    case round =>
      obtain ⟨k, P, rfl, rfl, hkg, HP, rfl⟩ := hrel
      have hP0 : 0 < P := by rw [HP.out]; exact Int.pow_pos (by decide)
      by_cases hg : gk = 0
      · obtain rfl : k = K := by omega
        have hfl := HBM.out P hP0
        have hdm := Int.mul_tdiv_add_tmod m P
        have hnz : (P == 0) = false := by rw [beq_eq_false_iff_ne]; omega
        obtain ⟨q, hq⟩ : ∃ q, m.tdiv P = q := ⟨_, rfl⟩
        obtain ⟨r, hr⟩ : ∃ r, m.tmod P = r := ⟨_, rfl⟩
        have hqb : q.natAbs ≤ m.natAbs := by rw [← hq]; exact Int.natAbs_tdiv_le_natAbs m P
        have hrb : r.natAbs ≤ m.natAbs := by
          rw [← hr, Int.natAbs_tmod]; exact Nat.mod_le _ _
        rw [hq, hr] at hfl
        have HFL : Hid ((if r < 0 then q - 1 else q) = m.fdiv (10 ^ k)) := by rw [← HP.out]; exact hfl
        have q1 : -1000000000000 < q := by omega
        have q2 : q < 1000000000000 := by omega
        have r1 : -1000000000000 < r := by omega
        have r2 : r < 1000000000000 := by omega
        clear hfl hdm hqb hrb hg hkg
        by_cases hr0 : r < 0
        · have HF2 : Hid (q - 1 = m.fdiv (10 ^ k)) := by have := HFL.out; rw [if_pos hr0] at this; exact this
          have HFI := Lib.hid (fun w' ht => fromIntP_c (q - 1) w' (by omega) (by omega) ht)
          go_wp2_with (go_at_call 82; (with_reducible refine (HFI.out _ (HT.out.below HB.out)).mono ?_); rintro en w3 ⟨rfl, hbz⟩; have HB3 := Lib.hid (belowT HB.out hbz); clear hbz)
          go_ret2
          exact ⟨by rw [← HF2.out]; rfl, belowT HBEL.out HB3.out⟩
        · have HF2 : Hid (q = m.fdiv (10 ^ k)) := by have := HFL.out; rw [if_neg hr0] at this; exact this
          have HFI := Lib.hid (fun w' ht => fromIntP_c q w' (by omega) (by omega) ht)
          go_wp2_with (go_at_call 82; (with_reducible refine (HFI.out _ (HT.out.below HB.out)).mono ?_); rintro en w3 ⟨rfl, hbz⟩; have HB3 := Lib.hid (belowT HB.out hbz); clear hbz)
          go_ret2
          exact ⟨by rw [← HF2.out]; rfl, belowT HBEL.out HB3.out⟩
      · obtain ⟨g, rfl⟩ : ∃ g, gk = g + 1 := ⟨gk - 1, by omega⟩
        have hPb : P ≤ 100000000000 := by
          rw [HP.out]
          have := pow_mono' (b := 10) (by decide) (i := k) (j := 11) (by omega)
          exact this
        have hkl : (k : Int) < (K : Int) := by omega
        clear hg
        go_wp2_with fail
        go_roundg g
        case measure => omega
        case rel =>
          refine ⟨k + 1, P * 10, by go_num, rfl, by omega, ?_, rfl⟩
          show _ = _
          rw [HP.out, Int.pow_succ]
end Go.Proofs.YtekbfommnmikbaaGreatDoor
/- Helpers of the laws of rounding: digits, at, away, close, least. -/
namespace Go.Proofs.YtekbfommnmikbaaGreatDoor
set_option linter.unusedVariables false
set_option linter.unusedSimpArgs false
open Go.RowKit Go.Shelf Go.Proofs Go.Sort
attribute [local go_sem ↓] Go.wp_at_zero Go.wp_at_succ

/-- The text of an integer. -/
def txI (z : Int) : ByteArray := ⟨(Lib.itoa z).toArray⟩
theorem txI_num {z : Int} (h : z.natAbs < 10 ^ 200) : NumL (txI z).data.toList z := ⟨by unfold txI; simp, h⟩
theorem txI_snoc {m : Int} (h : m ≠ 0) : txI m ++ ⟨#[48]⟩ = txI (m * 10) := by
  have e := itoa_zeros h 1
  rw [Int.pow_succ, Int.pow_zero, Int.one_mul] at e
  unfold txI
  rw [← e]
  apply ByteArray.ext
  rw [ByteArray.data_append, show Lib.repeatL [48] 1 = [(48 : UInt8)] from rfl]
  simp
theorem txI_size {n : Int} (h0 : -9223372036854775808 ≤ n) (h1 : n ≤ 9223372036854775807) : (txI n).size ≤ 100 := by
  have := Lib.itoa_length_le n h0 h1
  show (Lib.itoa n).toArray.size ≤ 100
  simp; omega
theorem ten_next (n : Int) (k : Nat) : n * 10 ^ k * 10 = n * 10 ^ (k + 1) := by rw [Int.pow_succ, Int.mul_assoc]
set_option maxRecDepth 100000 in
set_option maxHeartbeats 4000000 in
theorem digitsR_c (n z : Int) (w : World) (h0 : -9223372036854775808 ≤ n) (h1 : n ≤ 9223372036854775807) (hz : z ≤ 1000000) (ht : Tabs w) :
    Calls Tryz.prog 77 #[.int .i64 n, .int .i64 z] w fun en w' => en = .returned (.string (txI (n * 10 ^ z.toNat))) ∧ Below w.heap.size w w' := by
  have HI : Hid (Calls Tryz.prog 82 #[.int .i64 n] w fun e w' => e = .returned (.string (txI n)) ∧ Below w.heap.size w w') := fromIntP_c n w h0 h1 ht.pow10
  have hn200 : n.natAbs < 10 ^ 200 := by
    have h2 : n.natAbs < 10 ^ 19 := by omega
    exact Nat.lt_of_lt_of_le h2 (Nat.pow_le_pow_right (by decide) (by decide))
  have HB10 : Hid (∀ w', Tabs w' → Calls Tryz.prog 150 #[.string (txI n), .int .i64 10] w' fun e w2 => e = .returned (.tuple #[.string (txI n), .int .i64 0]) ∧ Below w'.heap.size w' w2) := fun w' ht' => law_tobase (txI n) n (txI n) w' 10 (txI_num hn200) (by decide) (by decide) (by rw [btext_ten]; rfl) ht'
  have HT := Lib.hid ht
  clear hn200 ht
  by_cases hn : n = 0
  · subst hn
    rw [Int.zero_mul]
    obtain ⟨S, hS⟩ : ∃ S, txI 0 = S := ⟨_, rfl⟩
    rw [hS] at HI HB10 ⊢
    clear hS
    go_enter Tryz.func77, Tryz.ntmps77
    go_wp2_with (first
      | (go_at_call 82; (with_reducible refine (HI.out).mono ?_); rintro en w2 ⟨rfl, hbz⟩; have HB := Lib.hid hbz; clear hbz)
      | (go_at_call 150; (with_reducible refine (HB10.out _ (HT.out.below HB.out)).mono ?_); rintro en w3 ⟨rfl, hbz⟩; have HB := Lib.hid (belowT HB.out hbz); clear hbz))
    go_ret
    exact ⟨rfl, HB.out⟩
  have hne : (n == 0) = false := by simp [hn]
  have HNZ := Lib.hid hn
  obtain ⟨L, hL⟩ : ∃ L, z.toNat = L := ⟨_, rfl⟩
  have HL := Lib.hid hL
  rw [hL]
  obtain ⟨S0, hS0⟩ : ∃ S, txI n = S := ⟨_, rfl⟩
  rw [hS0] at HI HB10
  have HS0 : Hid (S0 = txI (n * 10 ^ 0)) := by show _ = _; rw [Int.pow_zero, Int.mul_one]; exact hS0.symm
  have hs0 : S0.size ≤ 100 := by rw [← hS0]; exact txI_size h0 h1
  clear hL hS0
  go_enter Tryz.func77, Tryz.ntmps77
  go_wp2_with (first
    | (go_at_call 82; (with_reducible refine (HI.out).mono ?_); rintro en w2 ⟨rfl, hbz⟩; have HB := Lib.hid hbz; clear hbz)
    | (go_at_call 150; (with_reducible refine (HB10.out _ (HT.out.below HB.out)).mono ?_); rintro en w3 ⟨rfl, hbz⟩; have HB := Lib.hid (belowT HB.out hbz); clear hbz))
  have HB3 := HB
  clear HB HI HB10
  go_loopg [5, 7] L (fun g s i wr => ∃ (k : Nat) (S : ByteArray), i = .int .i64 (k : Int) ∧ k + g = L ∧ s = .string S ∧ S.size ≤ 100 + k ∧ Hid (S = txI (n * 10 ^ k)) ∧ Hid (Below w.heap.size w wr))
  case atStart => exact ⟨0, S0, rfl, by omega, rfl, hs0, HS0, HB3⟩
  case round =>
    obtain ⟨k, S, rfl, hkg, rfl, hss, HS, HB⟩ := hrel
    have hl := HL.out
    by_cases hg : gk = 0
    · have hk : ¬ (k : Int) < z := by omega
      obtain rfl : k = L := by omega
      go_wp2_with fail
      go_ret
      exact ⟨by rw [HS.out]; rfl, HB.out⟩
    · obtain ⟨g, rfl⟩ : ∃ g, gk = g + 1 := ⟨gk - 1, by omega⟩
      have hk : (k : Int) < z := by omega
      have hsz : ¬ S.size + 1 > 9223372036854775807 := by omega
      go_wp2_with fail
      go_roundg g
      exact ⟨k + 1, _, by simp, by omega, rfl, by rw [ByteArray.size_append]; show S.size + 1 ≤ _; omega, by show _ = _; rw [HS.out, txI_snoc ?_, ten_next]; exact fun h => HNZ.out (by rcases Int.mul_eq_zero.1 h with h | h; exact h; exact absurd h (Int.ne_of_gt (Int.pow_pos (by decide)))), HB⟩
      exact Nat.lt_succ_self g

set_option maxRecDepth 100000 in
set_option maxHeartbeats 2000000 in
theorem atR_c (m e x : Int) (w : World) (h0 : -9223372036854775808 ≤ m) (h1 : m ≤ 9223372036854775807) (he0 : -100000 ≤ e) (he1 : e ≤ 100000) (hx0 : -100000 ≤ x) (hx1 : x ≤ 100000) (ht : Tabs w) :
    Calls Tryz.prog 75 #[.agg #[.int .i64 m, .int .i64 e], .int .i64 x] w fun en w' => en = .returned (.string (txI (m * 10 ^ (e - x).toNat))) ∧ Below w.heap.size w w' := by
  obtain ⟨W, hW, k0, hbel⟩ := bx1h w #[.int .i64 m, .int .i64 e] 23
  have HBEL := Lib.hid hbel
  obtain ⟨c0, c1⟩ := two_cells k0
  have HD := Lib.hid (digitsR_c m (e - x) W h0 h1 (by omega) (ht.below hbel))
  have hw : IntKind.i64.wrap (e - x) = e - x := IntWalk.i64_in _ (by omega)
  clear k0 hbel ht
  go_enter Tryz.func75, Tryz.ntmps75
  go_wp2_with (go_at_call 77; (with_reducible refine (HD.out).mono ?_); rintro en w2 ⟨rfl, hbz⟩; have HB := Lib.hid hbz; clear hbz)
  go_ret
  exact ⟨rfl, belowT HBEL.out HB.out⟩

set_option maxRecDepth 100000 in
set_option maxHeartbeats 2000000 in
theorem away_c (S T : ByteArray) (x y : Int) (w : World) (hS : NumL S.data.toList x) (hT : NumL T.data.toList y) (hd : (x + -y).natAbs < 10 ^ 200) (ht : Tabs w) :
    Calls Tryz.prog 74 #[.string S, .string T] w fun en w' => en = .returned (.string (txI ((x + -y).natAbs : Int))) ∧ Below w.heap.size w w' := by
  have HS : Hid (Calls Tryz.prog 145 #[.string S, .string T] w fun e w2 => e = .returned (.tuple #[.string (txI (x + -y)), .int .i64 0]) ∧ Below w.heap.size w w2) := law_sub S T x y (txI (x + -y)) 0 w hS hT (if_pos hd) (if_pos hd) ht
  have HA : Hid (∀ w', Tabs w' → Calls Tryz.prog 146 #[.string (txI (x + -y))] w' fun e w2 => e = .returned (.tuple #[.string (txI ((x + -y).natAbs : Int)), .int .i64 0]) ∧ Below w'.heap.size w' w2) := fun w' ht' => law_abs (txI (x + -y)) (x + -y) (txI ((x + -y).natAbs : Int)) 0 w' (txI_num hd) (if_pos (by rw [Int.natAbs_natCast]; exact hd)) (if_pos (by rw [Int.natAbs_natCast]; exact hd)) ht'
  have HT := Lib.hid ht
  obtain ⟨U, hU⟩ : ∃ U, txI (x + -y) = U := ⟨_, rfl⟩
  obtain ⟨V, hV⟩ : ∃ V, txI ((x + -y).natAbs : Int) = V := ⟨_, rfl⟩
  rw [hU] at HS HA
  rw [hV] at HA ⊢
  clear hU hV hS hT hd ht
  go_enter Tryz.func74, Tryz.ntmps74
  go_wp2_with (first
    | (go_at_call 145; (with_reducible refine (HS.out).mono ?_); rintro en w2 ⟨rfl, hbz⟩; have HB := Lib.hid hbz; clear hbz)
    | (go_at_call 146; (with_reducible refine (HA.out _ (HT.out.below HB.out)).mono ?_); rintro en w3 ⟨rfl, hbz⟩; have HB := Lib.hid (belowT HB.out hbz); clear hbz))
  go_ret
  exact ⟨rfl, HB.out⟩

/-- Exponents that are near 0. -/
def closeB (l : List (Int × Int)) : Bool := l.all fun p => decide (¬ p.2 < -40 ∧ ¬ 30 < p.2)
theorem closeB_snoc (l : List (Int × Int)) (p : Int × Int) : closeB (l ++ [p]) = (closeB l && decide (¬ p.2 < -40 ∧ ¬ 30 < p.2)) := by
  unfold closeB; rw [List.all_append]; simp
set_option maxRecDepth 100000 in
set_option maxHeartbeats 4000000 in
theorem close_c (A : Option Addr) (c : Nat) (l : List (Int × Int)) (w : World) (hr : Reals w A l) (hl : l.length ≤ 1000000) :
    Calls Tryz.prog 72 #[.slice A l.length c] w fun en w' => en = .returned (.bool (closeB l)) ∧ Below w.heap.size w w' := by
  obtain ⟨L, hL⟩ : ∃ L, l.length = L := ⟨_, rfl⟩
  have HR := Lib.hid hr; have HL := Lib.hid hL
  rw [hL] at hl ⊢
  clear hr hL
  go_enter Tryz.func72, Tryz.ntmps72
  go_wp2_with fail
  go_loopg [3] L (fun g i wr => ∃ k : Nat, i = .int .i64 (k : Int) ∧ k + g = L ∧ Hid (closeB (l.take k) = true) ∧ Hid (Below w.heap.size w wr))
  case atStart => exact ⟨0, rfl, by omega, rfl, Below.refl _ _⟩
  case round =>
    obtain ⟨k, rfl, hkg, HC, HB⟩ := hrel
    by_cases hg : gk = 0
    · obtain rfl : k = L := by omega
      go_wp2_with fail
      go_ret
      have h1 := HC.out
      rw [List.take_of_length_le (by rw [HL.out]; exact Nat.le_refl _)] at h1
      exact ⟨by rw [h1]; rfl, HB.out⟩
    · obtain ⟨g, rfl⟩ : ∃ g, gk = g + 1 := ⟨gk - 1, by omega⟩
      have hkL : k < L := by omega
      obtain ⟨a, rfl, hc0, hc1⟩ := (HR.out.below HB.out) k (by rw [HL.out]; exact hkL)
      obtain ⟨y, ey, hme⟩ : ∃ m e, l[k]?.getD (0, 0) = (m, e) := ⟨_, _, rfl⟩
      rw [hme] at hc0 hc1
      dsimp only at hc0 hc1
      have hc1' : wr.cell? { block := (a.add (k * 2)).block, off := (a.add (k * 2)).off + 1, spot := none } = some (.int .i64 ey) := hc1
      have hki : (k : Int) < (L : Int) := by omega
      have htk := drop_take' (by rw [HL.out]; exact hkL) hme
      have hcs := closeB_snoc (l.take k) (y, ey)
      rw [← htk, HC.out, Bool.true_and] at hcs
      dsimp only at hcs
      have hall : closeB (l.take (k + 1)) = false → closeB l = false := fun h => by
        unfold closeB at h ⊢
        rw [List.all_eq_false] at h ⊢
        obtain ⟨p, hp, hq⟩ := h
        exact ⟨p, List.mem_of_mem_take hp, hq⟩
      by_cases h1 : ey < -40
      · have hf : closeB l = false := hall (by rw [hcs]; simp [h1])
        have HF := Lib.hid hf
        clear hall hcs htk hme hg hc1 hf
        go_wp2_with fail
        go_ret
        exact ⟨by rw [HF.out]; rfl, HB.out⟩
      · by_cases h2 : 30 < ey
        · have hf : closeB l = false := hall (by rw [hcs]; simp [h2])
          have HF := Lib.hid hf
          clear hall hcs htk hme hg hc1 hf
          go_wp2_with fail
          go_ret
          exact ⟨by rw [HF.out]; rfl, HB.out⟩
        · have HC2 : Hid (closeB (l.take (k + 1)) = true) := by show _ = _; rw [hcs]; exact decide_eq_true ⟨h1, h2⟩
          clear hall hcs htk hme hg hc1
          go_wp2_with fail
          go_roundg g
          exact ⟨k + 1, by simp, by omega, HC2, HB⟩
          exact Nat.lt_succ_self g

/-- The least and the greatest exponent. -/
def LP (l : List (Int × Int)) (lo hi : Int) : Prop := (∀ p ∈ l, lo ≤ p.2 ∧ p.2 ≤ hi) ∧ (∃ p ∈ l, p.2 = lo) ∧ (∃ p ∈ l, p.2 = hi)
theorem LP_snoc {l : List (Int × Int)} {lo hi : Int} (p : Int × Int) (h : LP l lo hi) : LP (l ++ [p]) (if p.2 < lo then p.2 else lo) (if hi < p.2 then p.2 else hi) := by
  obtain ⟨h1, ⟨q, hq, hql⟩, ⟨r, hr, hrl⟩⟩ := h
  refine ⟨fun s hs => ?_, ?_, ?_⟩
  · rcases List.mem_append.1 hs with hs | hs
    · have := h1 s hs
      constructor <;> split <;> omega
    · rw [List.mem_singleton.1 hs]
      constructor <;> split <;> omega
  · split
    · exact ⟨p, List.mem_append_right _ (List.mem_singleton.2 rfl), rfl⟩
    · exact ⟨q, List.mem_append_left _ hq, hql⟩
  · split
    · exact ⟨p, List.mem_append_right _ (List.mem_singleton.2 rfl), rfl⟩
    · exact ⟨r, List.mem_append_left _ hr, hrl⟩
theorem LP_one (p : Int × Int) : LP [p] p.2 p.2 := ⟨fun q hq => by rw [List.mem_singleton.1 hq]; exact ⟨Int.le_refl _, Int.le_refl _⟩, ⟨p, List.mem_singleton.2 rfl, rfl⟩, ⟨p, List.mem_singleton.2 rfl, rfl⟩⟩
set_option maxRecDepth 100000 in
set_option maxHeartbeats 4000000 in
theorem least_c (A : Option Addr) (c : Nat) (l : List (Int × Int)) (w : World) (hr : Reals w A l) (hl : l.length ≤ 1000000) (hne : 0 < l.length) (hb : ∀ p ∈ l, -100000 ≤ p.2 ∧ p.2 ≤ 100000) :
    Calls Tryz.prog 73 #[.slice A l.length c] w fun en w' => (∃ lo hi, en = .returned (.tuple #[.int .i64 lo, .int .i64 (hi - lo)]) ∧ LP l lo hi) ∧ Below w.heap.size w w' := by
  obtain ⟨L, hL⟩ : ∃ L, l.length = L := ⟨_, rfl⟩
  have HR := Lib.hid hr; have HL := Lib.hid hL; have HBD := Lib.hid hb
  rw [hL] at hl hne ⊢
  have HNE := Lib.hid hne
  clear hr hL hb hne
  go_enter Tryz.func73, Tryz.ntmps73
  go_wp2_with fail
  go_loopg [4, 5, 6] L (fun g lv hv iv wr => ∃ (k : Nat) (lo hi : Int), iv = .int .i64 (k : Int) ∧ lv = .int .i64 lo ∧ hv = .int .i64 hi ∧ k + g = L ∧ Hid (0 < k → LP (l.take k) lo hi) ∧ Hid (Below w.heap.size w wr))
  case atStart => exact ⟨0, 0, 0, rfl, rfl, rfl, by omega, fun h => absurd h (Nat.lt_irrefl 0), Below.refl _ _⟩
  case round =>
    obtain ⟨k, lo, hi, rfl, rfl, rfl, hkg, HLP, HB⟩ := hrel
    by_cases hg : gk = 0
    · obtain rfl : k = L := by omega
      have hlp := HLP.out HNE.out
      rw [List.take_of_length_le (by rw [HL.out]; exact Nat.le_refl _)] at hlp
      have hwr : IntKind.i64.wrap (hi - lo) = hi - lo := by
        obtain ⟨_, ⟨p, hp, e1⟩, ⟨q, hq, e2⟩⟩ := hlp
        have b1 := HBD.out p hp; have b2 := HBD.out q hq
        exact IntWalk.i64_in _ (by omega)
      have HLQ := Lib.hid hlp
      clear hlp
      go_wp2_with fail
      refine bodyPost_ret (v := .tuple #[.int .i64 lo, .int .i64 (hi - lo)]) (by simp [results, Tryz.results73, go_sem]) rfl ?_
      exact ⟨⟨lo, hi, rfl, HLQ.out⟩, HB.out⟩
    · obtain ⟨g, rfl⟩ : ∃ g, gk = g + 1 := ⟨gk - 1, by omega⟩
      have hkL : k < L := by omega
      obtain ⟨a, rfl, hc0, hc1⟩ := (HR.out.below HB.out) k (by rw [HL.out]; exact hkL)
      obtain ⟨y, ey, hme⟩ : ∃ m e, l[k]?.getD (0, 0) = (m, e) := ⟨_, _, rfl⟩
      rw [hme] at hc0 hc1
      dsimp only at hc0 hc1
      have hc1' : wr.cell? { block := (a.add (k * 2)).block, off := (a.add (k * 2)).off + 1, spot := none } = some (.int .i64 ey) := hc1
      have hki : (k : Int) < (L : Int) := by omega
      have htk := drop_take' (by rw [HL.out]; exact hkL) hme
      by_cases hk0 : k = 0
      · have HL2 : Hid (0 < k + 1 → LP (l.take (k + 1)) ey ey) := fun _ => by rw [htk, hk0]; exact LP_one (y, ey)
        have hkb : ((k : Int) == 0) = true := by rw [hk0]; rfl
        clear htk hme hg hc1 hk0
        go_wp2_with fail
        go_roundg g
        exact ⟨k + 1, ey, ey, by simp, rfl, rfl, by omega, HL2, HB⟩
        exact Nat.lt_succ_self g
      · have hkb : ((k : Int) == 0) = false := by simp; omega
        have hki0 : ¬ (k : Int) = 0 := by omega
        have hs := LP_snoc (y, ey) (HLP.out (by omega))
        rw [← htk] at hs
        dsimp only at hs
        by_cases h1 : ey < lo
        · rw [if_pos h1] at hs
          by_cases h2 : hi < ey
          · rw [if_pos h2] at hs
            have HL2 : Hid (0 < k + 1 → LP (l.take (k + 1)) ey ey) := fun _ => hs
            clear htk hme hg hc1 hs hk0
            go_wp2_with fail
            go_roundg g
            exact ⟨k + 1, ey, ey, by simp, rfl, rfl, by omega, HL2, HB⟩
            exact Nat.lt_succ_self g
          · rw [if_neg h2] at hs
            have HL2 : Hid (0 < k + 1 → LP (l.take (k + 1)) ey hi) := fun _ => hs
            clear htk hme hg hc1 hs hk0
            go_wp2_with fail
            go_roundg g
            exact ⟨k + 1, ey, hi, by simp, rfl, rfl, by omega, HL2, HB⟩
            exact Nat.lt_succ_self g
        · rw [if_neg h1] at hs
          by_cases h2 : hi < ey
          · rw [if_pos h2] at hs
            have HL2 : Hid (0 < k + 1 → LP (l.take (k + 1)) lo ey) := fun _ => hs
            clear htk hme hg hc1 hs hk0
            go_wp2_with fail
            go_roundg g
            exact ⟨k + 1, lo, ey, by simp, rfl, rfl, by omega, HL2, HB⟩
            exact Nat.lt_succ_self g
          · rw [if_neg h2] at hs
            have HL2 : Hid (0 < k + 1 → LP (l.take (k + 1)) lo hi) := fun _ => hs
            clear htk hme hg hc1 hs hk0
            go_wp2_with fail
            go_roundg g
            exact ⟨k + 1, lo, hi, by simp, rfl, rfl, by omega, HL2, HB⟩
            exact Nat.lt_succ_self g
end Go.Proofs.YtekbfommnmikbaaGreatDoor
/- The reference of layer 2: the places of reals. -/
namespace Go.Proofs.YtekbfommnmikbaaGreatDoor
set_option linter.unusedVariables false
set_option linter.unusedSimpArgs false
open Go.RowKit Go.Shelf Go.Proofs
attribute [local go_sem ↓] Go.wp_at_zero Go.wp_at_succ

end Go.Proofs.YtekbfommnmikbaaGreatDoor
/- The reference of layer 2: Valid; the statements' helpers. -/
namespace Go.Proofs.YtekbfommnmikbaaGreatDoor
set_option linter.unusedVariables false
set_option linter.unusedSimpArgs false
open Go.RowKit Go.Shelf Go.Proofs
attribute [local go_sem ↓] Go.wp_at_zero Go.wp_at_succ

end Go.Proofs.YtekbfommnmikbaaGreatDoor
/- A region that draws its order, by what holds whatever has come up: one look at each operation. -/
namespace Go.Proofs.YtekbfommnmikbaaGreatDoor
set_option linter.unusedVariables false
set_option linter.unusedSimpArgs false

section
variable {P : Program} {ops : Array Oper} {Q : Exit → Act → World → Prop}

/-- What operation i waits for. -/
def predsOf (ops : Array Oper) (i : Nat) : List Nat := match ops[i]? with
  | some o => (o.after.toList.filter (Region.binds .any)).map (·.on)
  | none => []
/-- Each operation waits for earlier ones alone. -/
def backward (ops : Array Oper) : Bool := (List.range ops.size).all fun i => (predsOf ops i).all fun j => decide (j < i)

theorem pred_mem {i : Nat} {o : Oper} (ho : ops[i]? = some o) {e : Edge} (he : e ∈ o.after) (hb : Region.binds .any e = true) : e.on ∈ predsOf ops i := by
  unfold predsOf
  rw [ho]
  exact List.mem_map.2 ⟨e, List.mem_filter.2 ⟨by simpa using he, hb⟩, rfl⟩

theorem ready_nil {l : Array Bool} (hb : backward ops = true) (hr : Region.ready .any ops l = []) : ∀ i, i < ops.size → l.getD i true = true := by
  intro i
  induction i using Nat.strongRecOn with
  | _ i ih =>
    intro hi
    cases hl : l.getD i true with
    | true => rfl
    | false =>
      exfalso
      have hm : i ∈ Region.ready .any ops l := by
        refine mem_ready.2 ⟨hl, ops[i], by rw [Array.getElem?_eq_getElem hi], fun e he hbd => ?_⟩
        have hp := pred_mem (Array.getElem?_eq_getElem hi) he hbd
        have hlt : e.on < i := by
          have h1 := List.all_eq_true.1 hb i (List.mem_range.2 hi)
          exact of_decide_eq_true (List.all_eq_true.1 h1 _ hp)
        have h2 := ih _ hlt (by omega)
        by_cases hs : e.on < l.size
        · simp [hs] at h2 ⊢; exact h2
        · exfalso
          have : i < l.size ∨ ¬ i < l.size := Nat.lt_or_ge i l.size |>.imp id Nat.not_lt.2
          rcases this with h | h
          · omega
          · simp [h] at hl
      rw [hr] at hm
      cases hm

/-- Step p i, p (i+1), .. -/
def AllFrom (p : Nat → Prop) : Nat → Nat → Prop
  | _, 0 => True
  | i, n + 1 => p i ∧ AllFrom p (i + 1) n
theorem AllFrom.get {p : Nat → Prop} : ∀ (n i : Nat), AllFrom p i n → ∀ j, i ≤ j → j < i + n → p j
  | 0, _, _, _, h1, h2 => by omega
  | n + 1, i, h, j, h1, h2 => by
    by_cases e : j = i
    · subst e; exact h.1
    · exact AllFrom.get n (i + 1) h.2 j (by omega) (by omega)

theorem count_set {l : Array Bool} {i : Nat} (h : l.getD i true = false) : (l.setIfInBounds i true).toList.count false + 1 = l.toList.count false := by
  have hi : i < l.size := by
    rcases Nat.lt_or_ge i l.size with h' | h'
    · exact h'
    · simp [Array.getElem?_eq_none h'] at h
  have hv : l.toList[i]'(by simpa using hi) = false := by simpa [hi] using h
  have h1 : 0 < l.toList.count false := List.count_pos_iff.2 (hv ▸ List.getElem_mem _)
  have h2 : (l.setIfInBounds i true).toList.count false = l.toList.count false - 1 := by
    rw [Array.toList_setIfInBounds, List.count_set (by simpa using hi), hv]
    rfl
  omega

theorem wpAny_inv (I : Array Bool → Act → World → Prop) (hb : backward ops = true)
    (hs : ∀ i, i < ops.size → ∀ l a w, I l a w → (∀ j, (predsOf ops i).contains j = true → l.getD j false = true) → l.getD i true = false → wpOp P ops Q i (I (l.setIfInBounds i true)) a w)
    (he : ∀ l a w, (∀ i, i < ops.size → l.getD i false = true) → I l a w → Q .normal a w) :
    ∀ (fuel : Nat) (l : Array Bool) (a : Act) (w : World), l.size = ops.size → l.toList.count false ≤ fuel → I l a w → wpAny P .any ops Q fuel l a w := by
  intro fuel
  have hall : ∀ (l : Array Bool), l.size = ops.size → Region.ready .any ops l = [] → ∀ i, i < ops.size → l.getD i false = true := by
    intro l hl hr i hi
    have := ready_nil hb hr i hi
    simp [hl, hi] at this ⊢
    exact this
  induction fuel with
  | zero =>
    intro l a w hl hc hI
    have hr : Region.ready .any ops l = [] := by
      cases hr : Region.ready .any ops l with
      | nil => rfl
      | cons i t =>
        exfalso
        have hm : i ∈ Region.ready .any ops l := by rw [hr]; exact List.mem_cons_self
        have := count_set (mem_ready.1 hm).1
        omega
    exact ⟨hr, he l a w (hall l hl hr) hI⟩
  | succ fuel ih =>
    intro l a w hl hc hI
    refine ⟨fun hr => he l a w (hall l hl hr) hI, fun i hi => ?_⟩
    obtain ⟨h0, o, ho, hp⟩ := mem_ready.1 hi
    have hlt : i < ops.size := (Array.getElem?_eq_some_iff.1 ho).1
    refine wpOp_mono (fun a' w' h' => ih _ a' w' (by simpa using hl) (by have := count_set h0; omega) h') (hs i hlt l a w hI (fun j hj => ?_) h0)
    have hj' : j ∈ predsOf ops i := by simpa using hj
    unfold predsOf at hj'
    rw [ho] at hj'
    obtain ⟨e, he1, rfl⟩ := List.mem_map.1 hj'
    obtain ⟨he2, he3⟩ := List.mem_filter.1 he1
    exact hp e (by simpa using he2) he3

/-- One operation's duty. -/
def OpStep (P : Program) (ops : Array Oper) (Q : Exit → Act → World → Prop) (I : Array Bool → Act → World → Prop) (i : Nat) : Prop :=
  ∀ l a w, I l a w → (∀ j, (predsOf ops i).contains j = true → l.getD j false = true) → l.getD i true = false → wpOp P ops Q i (I (l.setIfInBounds i true)) a w

/-- A region that draws its order: each operation keeps what holds. -/
theorem wp_region_inv {id : Nat} {a : Act} {w : World} (I : Array Bool → Act → World → Prop) (n : Nat) (hn : ops.size = n)
    (hm : P.follows .mixedOrders = true) (hb : backward ops = true)
    (h0 : I (Array.replicate n false) a w.drew)
    (he : ∀ l a w, (∀ i, i < n → l.getD i false = true) → I l a w → Q .normal a w)
    (hs : AllFrom (OpStep P ops Q I) 0 n) : (Code.region id ops true).wp P Q a w := by
  subst hn
  refine wp_region_any hm (wpAny_inv I hb (fun i hi => AllFrom.get _ _ hs i (Nat.zero_le _) (by omega)) he _ _ _ _ (by simp) ?_ h0)
  refine Nat.le_trans List.count_le_length ?_
  simp

/-- An operation's duty, step by step. -/
theorem opStep {I : Array Bool → Act → World → Prop} {i : Nat} {o : Oper} (ho : ops[i]? = some o)
    (h : ∀ l a w, I l a w → (∀ j, (predsOf ops i).contains j = true → l.getD j false = true) → l.getD i true = false →
      ∀ K : Act → World → Prop, (∀ a w, I (l.setIfInBounds i true) a w → K a w) → if Region.wanted o (yielded ops a.tmps) = true then Oper.wp P o a w K Q else K (a.put o.dst undef) w) : OpStep P ops Q I i :=
  fun l a w hI hp hl => wpOp_step ho (h l a w hI hp hl)

/-- The temporaries of a region, by their numbers. -/
def At (a0 : Act) (ds : List Nat) (us : Nat → Value) : Act := { a0 with tmps := ds.foldl (fun t d => t.setIfInBounds d (us d)) a0.tmps }
/-- One of them turned. -/
def upd (us : Nat → Value) (d : Nat) (v : Value) : Nat → Value := fun t => if t = d then v else us t
theorem upd_same (us : Nat → Value) (d : Nat) (v : Value) : upd us d v d = v := if_pos rfl
theorem upd_ne (us : Nat → Value) {d t : Nat} (v : Value) (h : t ≠ d) : upd us d v t = us t := if_neg h
theorem at_self (a0 : Act) : ∀ ds : List Nat, At a0 ds (fun t => a0.tmps.getD t undef) = a0
  | [] => rfl
  | d :: ds => by
    have h : a0.tmps.setIfInBounds d (a0.tmps.getD d undef) = a0.tmps := by
      by_cases hd : d < a0.tmps.size
      · refine Array.ext (by simp) fun i h1 h2 => ?_
        by_cases hi : d = i
        · subst hi; simp [h2]
        · rw [Array.getElem_setIfInBounds_ne h2 hi]
      · rw [Array.setIfInBounds_eq_of_size_le (by omega)]
    have ih := at_self a0 ds
    unfold At at ih ⊢
    rw [List.foldl_cons, h]
    exact ih
/-- The same, the temporaries by their numbers. -/
theorem wp_region_at {id : Nat} {a0 : Act} {w : World} (ds : List Nat) (J : Array Bool → (Nat → Value) → World → Prop) (n : Nat) (hn : ops.size = n)
    (hm : P.follows .mixedOrders = true) (hb : backward ops = true)
    (h0 : ∀ us, J (Array.replicate n false) us w.drew)
    (he : ∀ l us w, (∀ i, i < n → l.getD i false = true) → J l us w → Q .normal (At a0 ds us) w)
    (hs : AllFrom (OpStep P ops Q (fun l a w => ∃ us, a = At a0 ds us ∧ J l us w)) 0 n) : (Code.region id ops true).wp P Q a0 w :=
  wp_region_inv (fun l a w => ∃ us, a = At a0 ds us ∧ J l us w) n hn hm hb ⟨_, (at_self a0 ds).symm, h0 _⟩ (fun l a w hl ⟨us, e, hJ⟩ => e ▸ he l us w hl hJ) hs
/-- A goal that nothing looks into. -/
structure Duty (p : Prop) : Prop where
  out : p
def nthOp : List Oper → Nat → Option Oper
  | [], _ => none
  | o :: _, 0 => some o
  | _ :: t, i + 1 => nthOp t i
theorem nthOp_eq : ∀ (l : List Oper) (i : Nat), nthOp l i = l[i]?
  | [], _ => by simp [nthOp]
  | o :: _, 0 => by simp [nthOp]
  | _ :: t, i + 1 => by simp [nthOp, nthOp_eq t i]
theorem opAt {J : Array Bool → (Nat → Value) → World → Prop} {a0 : Act} {ds : List Nat} {i : Nat} {o : Oper} (ho : nthOp ops.toList i = some o)
    (h : ∀ l us w, J l us w → (∀ j, (predsOf ops i).contains j = true → l.getD j false = true) → l.getD i true = false →
      ∀ K : Act → World → Prop, (∀ us w, J (l.setIfInBounds i true) us w → K (At a0 ds us) w) → Duty (if Region.wanted o (yielded ops (At a0 ds us).tmps) = true then Oper.wp P o (At a0 ds us) w K Q else K ((At a0 ds us).put o.dst undef) w)) :
    OpStep P ops Q (fun l a w => ∃ us, a = At a0 ds us ∧ J l us w) i :=
  opStep (by rw [← ho, nthOp_eq, Array.getElem?_toList]) fun l a w ⟨us, e, hJ⟩ hp hl K hK => by subst e; exact (h l us w hJ hp hl K fun us w hJ => hK _ _ ⟨us, rfl, hJ⟩).out
theorem upd_self {us : Nat → Value} {d : Nat} {v : Value} (h : us d = v) : upd us d v = us := by
  funext t
  by_cases e : t = d
  · subst e; rw [upd_same, h]
  · rw [upd_ne us v e]
/-- What has been listed behind one more. -/
theorem listed_or {l : Array Bool} {i j : Nat} (h : (l.setIfInBounds i true).getD j false = true) : j = i ∨ l.getD j false = true := by
  by_cases e : j = i
  · exact .inl e
  · rw [getD_set_ne false (Ne.symm e)] at h; exact .inr h
theorem none_listed {n j : Nat} (h : (Array.replicate n false).getD j false = true) : False := by
  by_cases hj : j < n
  · simp [hj] at h
  · simp [hj] at h
theorem not_listed {l : Array Bool} {j : Nat} (h : l.getD j true = false) : ¬ l.getD j false = true := by
  intro h2
  by_cases hj : j < l.size
  · simp [hj] at h h2; rw [h] at h2; cases h2
  · simp [hj] at h
end
end Go.Proofs.YtekbfommnmikbaaGreatDoor
