/- The iterator over the parts, from the greatest one down; compare. -/
import Derived.RangeFuncNested
import Derived.RangeFuncBound
import Derived.RangeFuncCalls
import Derived.RangeFuncLeaves
import Derived.RangeFuncBox
import Derived.Shelf.Abstract
import Derived.Shelf.RegionOpen
import Derived.OwnWalkIn
import Derived.TacticsInMore
import Derived.LoopNIn
import Derived.LoopIn
import Derived.Test.YtbjgpbdkofadiaaGreatDoorWhole1
namespace Go.Proofs.YtbjgpbdkofadiaaGreatDoor
set_option linter.unusedVariables false
set_option linter.unusedSimpArgs false
open Go.RowKit Go.Shelf
attribute [local go_sem] Oper.semAt_some

/-- An index of a list of L. -/
abbrev Ix (L : Nat) := { i : Nat // i < L }
/-- The first k indices from L - 1 down. -/
def dn (L k : Nat) : List (Ix L) := (List.range (min k L)).attach.map fun j => ⟨L - 1 - j.1, by have := List.mem_range.1 j.2; omega⟩
theorem dn_succ (L k : Nat) (h : k < L) : dn L (k + 1) = dn L k ++ [⟨L - 1 - k, by omega⟩] := by
  have e1 : min (k + 1) L = k + 1 := by omega
  have e2 : min k L = k := by omega
  apply List.ext_getElem
  · simp [dn, e1, e2]
  · intro i h1 h2
    have hi : i < k + 1 := by simp [dn, e1] at h1; omega
    by_cases hk : i < k
    · rw [List.getElem_append_left (by simp [dn, e2]; exact hk)]
      simp [dn]
    · obtain rfl : i = k := by omega
      rw [List.getElem_append_right (by simp [dn, e2])]
      simp [dn]
theorem dn_length (L k : Nat) (h : k ≤ L) : (dn L k).length = k := by simp [dn]; omega
theorem dn_zero (L : Nat) : dn L 0 = [] := by simp [dn]

/-- What a round of the loop must keep: the box with the slice, and what lay below n₀. -/
def Kd (n₀ Bs : Nat) (W W' : World) : Prop := Below n₀ W W' ∧ W'.heap[Bs]? = W.heap[Bs]?
theorem Kd.t {n₀ Bs : Nat} {A B C : World} (h : Kd n₀ Bs A B) (k : Kd n₀ Bs B C) : Kd n₀ Bs A C := ⟨h.1.trans k.1, k.2.trans h.2⟩
theorem Kd.b {n₀ Bs : Nat} {w : World} (hn : n₀ ≤ w.heap.size) (hB : Bs < w.heap.size) (W : World) (l : Nat) (o o' : Obj) (hl : w.heap.size ≤ l) (h : W.heap[l]? = some o) (h1 : o.isCells = false) (h2 : o.isWalk = false) : Kd n₀ Bs W (W.putObj l o') :=
  ⟨belowK_b hn W l o o' hl h h1 h2, World.putObj_heap_other (by omega)⟩

set_option maxRecDepth 100000 in
set_option maxHeartbeats 2000000 in
/-- The closure: for every loop body that keeps what it reads. -/
theorem down1_in (F : Fence) (n : Nat) (h7 : F.fn 133) (hro : F.round = none) (hn : 1 ≤ n) (l Bs n₀ : Nat) (A : Option Addr) (cap : Nat) (zs : List Int) (hreach : zs.length ≤ 9223372036854775807) (J Jx : List (Ix zs.length) → World → Prop)
    (W : World) (hA : ∀ a, A = some a → zs.length = 0 ∨ a.block < n₀) (hY : ∀ pre x W1, J pre W1 → pre.length < zs.length → YieldAt F (n - 1) Tryz.prog l #[.int .i64 ((x.1 : Nat) : Int), .int .i64 (zs[x.1]?.getD 0)] W1 fun e W' =>
      (e = .returned (.bool true) ∧ J (pre ++ [x]) W' ∧ Kd n₀ Bs W1 W') ∨ (e = .returned (.bool false) ∧ Jx (pre ++ [x]) W'))
    (hBs : W.cell? ⟨Bs, 0, none⟩ = some (.slice A zs.length cap)) (hc : Row .i64 W A zs) (h0 : J [] W) :
    CallsIn F n Tryz.prog 133 #[.func (.yield l) #[] #[], .pointer (some ⟨Bs, 0, none⟩)] W fun e W' => (∃ v, e = .returned v) ∧
      ((∃ ys, ys = dn zs.length zs.length ∧ J ys W') ∨ (∃ pre, (∃ k, k < zs.length ∧ pre = dn zs.length (k + 1)) ∧ Jx pre W')) := by
  refine callsIn_of_wp Tryz.func133 rfl h7 ?_ hro
  simp only [Tryz.ntmps133, List.size_toArray, List.length_cons, List.length_nil, Nat.reduceAdd, Nat.reduceSub, Array.replicate_succ, Array.replicate_zero, List.push_toArray, List.append_toArray, List.nil_append, List.cons_append]
  have HC := Lib.hid hc
  clear hc
  gi_wp2
  have HBs := Lib.hid hBs
  clear hBs
  gi_loopw [3] (fun i wr => ∃ k : Nat, k ≤ zs.length ∧ i = .int .i64 ((zs.length : Int) - 1 - k) ∧ J (dn zs.length k) wr ∧ Hid (Kd n₀ Bs W wr))
    (fun i _ => (intOf i + 1).toNat)
  case atStart => exact ⟨0, Nat.zero_le _, by simp, by rw [dn_zero]; exact h0, ⟨Below.refl _ _, rfl⟩⟩
  case round =>
    obtain ⟨k, hk, rfl, hJs, HX⟩ := hrel
    have hbx : wr.cell? ⟨Bs, 0, none⟩ = some (.slice A zs.length cap) := (World.cell?_of_block (w := W) (a := ⟨Bs, 0, none⟩) HX.out.2).trans HBs.out
    by_cases hlt : k < zs.length
    · obtain ⟨j, hj⟩ : ∃ j, zs.length = k + j + 1 := ⟨zs.length - k - 1, by omega⟩
      have HJ := Lib.hid hj
      have hjl : j < zs.length := by omega
      have ej : ((zs.length : Int) - 1 - k) = (j : Int) := by omega
      rw [ej]
      obtain ⟨a, rfl, hcell⟩ := HC.out j (by omega)
      have hcj : wr.cell? (a.add j) = some (.int .i64 (zs[j]?.getD 0)) := (HX.out.1.cell (by rw [add_block]; exact (hA a rfl).resolve_left (by omega))).trans hcell
      clear hcell
      obtain ⟨fn, tmps, assign, body, hy, hR⟩ := hY _ ⟨j, hjl⟩ wr hJs (by rw [dn_length _ _ hk]; exact hlt)
      have e5 : dn zs.length (k + 1) = dn zs.length k ++ [⟨j, hjl⟩] := by rw [dn_succ _ _ hlt]; congr 3; omega
      have HE := Lib.hid e5
      dsimp only at hy
      clear hj e5 ej
      generalize hz : zs[j]?.getD 0 = z at *
      have HZ := Lib.hid hz
      clear hz
      gi_wp2
      refine hR.mono ?_
      rintro e W3 (⟨rfl, hJ3, hk3⟩ | ⟨rfl, hJx3⟩)
      · gi_wp2
        go_roundw
        case rel => exact ⟨k + 1, by omega, by have := HJ.out; first | (simp; done) | (simp; omega), by rw [HE.out]; exact hJ3, HX.out.t hk3⟩
        case measure => first | (simp [intOf]; done) | (simp [intOf]; have := HJ.out; omega)
      · gi_wp2
        refine bodyPost_ret (results_none rfl _ _ _) rfl ?_
        exact ⟨⟨_, rfl⟩, .inr ⟨_, ⟨k, by omega, HE.out.symm⟩, hJx3⟩⟩
    · obtain rfl : k = zs.length := by omega
      gi_wp2
      go_end0
      exact ⟨⟨_, rfl⟩, .inl ⟨_, rfl, hJs⟩⟩

set_option maxHeartbeats 1000000 in
/-- down: the slice value is boxed; the function value captures the box. -/
theorem down_in (F : Fence) (n : Nat) (h5 : F.fn 118) (hro : F.round = none) (a : Option Addr) (len cap : Nat) (w : World) :
    CallsIn F n Tryz.prog 118 #[.slice a len cap] w fun e w' => e = .returned (.func (.func 133) #[] #[.pointer (some ⟨w.heap.size, 0, none⟩)]) ∧ w' = w.alloc (.cells #[.slice a len cap] 70) := by
  refine callsIn_of_wp Tryz.func118 rfl h5 ?_ hro
  simp only [Tryz.ntmps118, List.size_toArray, List.length_cons, List.length_nil, Nat.reduceAdd, Nat.reduceSub, Array.replicate_succ, Array.replicate_zero, List.push_toArray, List.append_toArray, List.nil_append, List.cons_append]
  gi_wp2
  go_ret
  exact ⟨rfl, rfl⟩

theorem down_stops (F : Fence) (n : Nat) (h7 : F.fn 133) (hro : F.round = none) (hn : 1 ≤ n) (Bs n₀ : Nat) (A : Option Addr) (cap : Nat) (zs : List Int) (hreach : zs.length ≤ 9223372036854775807) (w : World) (hBs : Bs < w.heap.size)
    (hA : ∀ a, A = some a → zs.length = 0 ∨ a.block < n₀) (hn₀ : n₀ ≤ w.heap.size) (hc : w.cell? ⟨Bs, 0, none⟩ = some (.slice A zs.length cap)) (hI : Row .i64 w A zs) :
    SeqStopsK F n Tryz.prog 133 #[.pointer (some ⟨Bs, 0, none⟩)] (fun x : Ix zs.length => #[Value.int .i64 ((x.1 : Nat) : Int), Value.int .i64 (zs[x.1]?.getD 0)]) (Kd n₀ Bs) (fun ys => ys = dn zs.length zs.length) (fun pre => ∃ k, k < zs.length ∧ pre = dn zs.length (k + 1)) zs.length w := fun l J Jx W hW _ _ hY h0 =>
  down1_in F n h7 hro hn l Bs n₀ A cap zs hreach J Jx W hA hY ((hW.cell (p := ⟨Bs, 0, none⟩) hBs).trans hc) (hI.below hW) h0

theorem sgn_lt {a : Int} (h : a < 0) : sgn a = -1 := by simp [sgn, h]
theorem sgn_gt {a : Int} (h : 0 < a) : sgn a = 1 := by unfold sgn; rw [if_neg (by omega), if_pos h]
theorem sgn_zero : sgn 0 = 0 := by simp [sgn]

/-- Numbers with as many digits are ordered by the first digits that differ. -/
theorem cmp_top {b : Nat} (hb : 2 ≤ b) {m n : Nat} (hlen : (dg b m).length = (dg b n).length) (i : Nat) (hi : i < (dg b m).length)
    (heq : ∀ j, i < j → j < (dg b m).length → (dg b m)[j]?.getD 0 = (dg b n)[j]?.getD 0) (hne : (dg b m)[i]?.getD 0 ≠ (dg b n)[i]?.getD 0) :
    sgn ((dg b m)[i]?.getD 0 - (dg b n)[i]?.getD 0) = sgn ((m : Int) - n) := by
  have hd : (dg b m).drop (i + 1) = (dg b n).drop (i + 1) := by
    apply List.ext_getElem
    · simp [hlen]
    · intro j h1 h2
      simp at h1 h2
      have := heq (i + 1 + j) (by omega) (by omega)
      rw [List.getElem?_eq_getElem (by omega), List.getElem?_eq_getElem (by omega)] at this
      simpa using this
  have v1 := val_dg hb m
  have v2 := val_dg hb n
  simp only [← List.getD_eq_getElem?_getD] at hne ⊢
  rcases Int.lt_trichotomy ((dg b m).getD i 0) ((dg b n).getD i 0) with h | h | h
  · have := val_lt_of_top (dg_inR hb m) (dg_inR hb n) hlen i hi hd h
    rw [sgn_lt (by omega), sgn_lt (by omega)]
  · exact absurd h hne
  · have := val_lt_of_top (dg_inR hb n) (dg_inR hb m) hlen.symm i (by omega) hd.symm h
    rw [sgn_gt (by omega), sgn_gt (by omega)]

theorem cmp_len {b : Nat} (hb : 2 ≤ b) {m n : Nat} (hne : (dg b m).length ≠ (dg b n).length) : sgn (((dg b m).length : Int) - (dg b n).length) = sgn ((m : Int) - n) := by
  rcases Nat.lt_or_gt_of_ne hne with h | h
  · have : m < n := by
      rcases Nat.lt_or_ge m n with h' | h'
      · exact h'
      · have := dg_length_mono hb h'; omega
    rw [sgn_lt (by omega), sgn_lt (by omega)]
  · have : n < m := by
      rcases Nat.lt_or_ge n m with h' | h'
      · exact h'
      · have := dg_length_mono hb h'; omega
    rw [sgn_gt (by omega), sgn_gt (by omega)]

theorem cmp_eq {b : Nat} (hb : 2 ≤ b) {m n : Nat} (hlen : (dg b m).length = (dg b n).length) (heq : ∀ j, j < (dg b m).length → (dg b m)[j]?.getD 0 = (dg b n)[j]?.getD 0) : m = n := by
  refine dg_inj hb (List.ext_getElem hlen fun j h1 h2 => ?_)
  have := heq j h1
  rw [List.getElem?_eq_getElem h1, List.getElem?_eq_getElem h2] at this
  simpa using this

theorem mem_dn {L k : Nat} {i : Ix L} : i ∈ dn L k ↔ ∃ j, j < k ∧ j < L ∧ i.1 = L - 1 - j := by
  simp only [dn, List.mem_map, List.mem_attach, true_and, Subtype.exists, List.mem_range]
  constructor
  · rintro ⟨j, hj, rfl⟩
    exact ⟨j, by omega, by omega, rfl⟩
  · rintro ⟨j, h1, h2, h3⟩
    exact ⟨j, by omega, Subtype.ext h3.symm⟩

set_option maxRecDepth 100000 in
set_option maxHeartbeats 4000000 in
theorem compare_in (v1 v2 : Value) (m n : Nat) (w : World) (h1 : Dg 1000000000 w v1 m) (h2 : Dg 1000000000 w v2 n) :
    CallsIn Fence.wide 6 Tryz.prog 77 #[v1, v2] w fun e w' => e = .returned (.int .i64 (sgn ((m : Int) - n))) ∧ Below w.heap.size w w' := by
  obtain ⟨A1, c1, rfl, hc1, hm1, hr1⟩ := h1
  obtain ⟨A2, c2, rfl, hc2, hm2, hr2⟩ := h2
  have HR1 := Lib.hid hr1
  have HR2 := Lib.hid hr2
  have CL := Lib.hid (@cmp_len 1000000000 (by decide) m n)
  have CT := Lib.hid (@cmp_top 1000000000 (by decide) m n)
  have CE := Lib.hid (@cmp_eq 1000000000 (by decide) m n)
  have hAb : ∀ a, A1 = some a → (dg 1000000000 m).length = 0 ∨ a.block < w.heap.size := fun a ha => by
    rcases Nat.eq_zero_or_pos (dg 1000000000 m).length with h | h
    · exact .inl h
    · obtain ⟨a', e', hc'⟩ := hr1 0 h
      rw [ha] at e'; cases e'
      exact .inr (by have := World.block_lt_of_cell? w _ hc'; rwa [add_block] at this)
  have hbd : ∀ i, i < (dg 1000000000 m).length → ∀ z y, (dg 1000000000 m)[i]?.getD 0 = z → (dg 1000000000 n)[i]?.getD 0 = y → -1000000000 ≤ z - y ∧ z - y ≤ 1000000000 := fun i _ z y hz hy => by
    have b1 := (dg_inR (b := 1000000000) (by decide) m).at_ (by decide) i
    have b2 := (dg_inR (b := 1000000000) (by decide) n).at_ (by decide) i
    rw [List.getD_eq_getElem?_getD] at b1 b2
    rw [hz] at b1; rw [hy] at b2; omega
  clear hr1 hr2
  have HAB := Lib.hid hAb
  have HBD := Lib.hid hbd
  clear hAb hbd
  generalize dg 1000000000 m = p at *
  generalize dg 1000000000 n = q at *
  by_cases hlen : p.length = q.length
  · have HLEN := Lib.hid hlen
    have hlb : ((p.length : Int) != (q.length : Int)) = false := by simp [hlen]
    refine callsIn_of_wp_marks Tryz.func77 rfl trivial ?_ rfl
    simp only [Tryz.ntmps77, List.size_toArray, List.length_cons, List.length_nil, Nat.reduceAdd, Nat.reduceSub, Array.replicate_succ, Array.replicate_zero, List.push_toArray, List.append_toArray, List.nil_append, List.cons_append]
    clear hlen
    gi_wp2_with (refine ⟨trivial, ?_⟩; gi_at_call 118; refine (down_in Fence.wide (6 - 1) trivial rfl _ _ _ _).mono ?_; rintro e w' ⟨rfl, rfl⟩)
    obtain ⟨W, hW, k0, k1, k2, f0, f1, f2, hbel, hsz⟩ := boxes3 w #[.slice A2 q.length c2] #[.int .i64 0] #[.slice A1 p.length c1] 70 3 70
    rw [hW]
    have c0 : W.cell? ⟨w.heap.size, 0, none⟩ = some (.slice A2 q.length c2) := k0 0
    have c1_ : W.cell? ⟨w.heap.size + 1, 0, none⟩ = some (.int .i64 0) := k1 0
    have c2_ : W.cell? ⟨w.heap.size + 1 + 1, 0, none⟩ = some (.slice A1 p.length c1) := k2 0
    have f1_ : W.frozen? ⟨w.heap.size + 1, 0, none⟩ = false := f1 0
    clear k0 k1 k2 f0 f1 f2
    refine wpIn_rangeFunc_ownF rfl (by decide) (gf := 133) (lb := #[.pointer (some ⟨w.heap.size + 1 + 1, 0, none⟩)]) rfl trivial (enters_of Tryz.func133 (by kernel_rfl) rfl)
      (down_stops Fence.wide (6 - 1) trivial rfl (by decide) (w.heap.size + 1 + 1) w.heap.size A1 c1 p (by omega) W (by rw [hsz]; omega) (fun a ha => ?hA) (by rw [hsz]; omega) c2_ (HR1.out.below hbel.to)) Kd.t (Kd.b (by rw [hsz]; omega) (by rw [hsz]; omega)) (Below.refl _ _) (fun _ => rfl)
      (fun pre W' => ((∀ i ∈ pre, p[i.1]?.getD 0 = q[i.1]?.getD 0) ∧ W'.cell? ⟨w.heap.size, 0, none⟩ = some (.slice A2 q.length c2) ∧ W'.cell? ⟨w.heap.size + 1, 0, none⟩ = some (.int .i64 0) ∧ W'.frozen? ⟨w.heap.size + 1, 0, none⟩ = false) ∧ Below w.heap.size w W')
      (fun c pre W' => (c = .ret ∧ ∃ ini last, pre = ini ++ [last] ∧ (∀ i ∈ ini, p[i.1]?.getD 0 = q[i.1]?.getD 0) ∧ p[last.1]?.getD 0 ≠ q[last.1]?.getD 0 ∧ W'.cell? ⟨w.heap.size + 1, 0, none⟩ = some (.int .i64 (sgn (p[last.1]?.getD 0 - q[last.1]?.getD 0)))) ∧ Below w.heap.size w W')
      (OwnFrom.and (Own.from (fun s X Y row hs hg hr => ⟨hs.1, cell_kept hs.2.1 hg hr, cell_kept hs.2.2.1 hg hr, (frozen_kept hs.2.2.1 hg hr).trans hs.2.2.2⟩) _) (ownFrom_below (Nat.le_refl _) (by rw [hsz]; omega)))
      (fun c => OwnFrom.and (Own.from (fun s X Y row hs hg hr => by obtain ⟨hc, ini, last, e1, e2, e3, e4⟩ := hs; exact ⟨hc, ini, last, e1, e2, e3, cell_kept e4 hg hr⟩) _) (ownFrom_below (Nat.le_refl _) (by rw [hsz]; omega)))
      ⟨⟨by simp, c0, c1_, f1_⟩, hbel.to⟩
      (fun x => { tmps := (.slice A1 p.length c1 :: .slice A2 q.length c2 :: undef :: .pointer (some ⟨w.heap.size, 0, none⟩) :: .pointer (some ⟨w.heap.size + 1, 0, none⟩) :: .int .i64 ((x.1 : Nat) : Int) :: .int .i64 (p[x.1]?.getD 0) :: .slice A1 p.length c1 :: .int .i64 p.length :: .slice A2 q.length c2 :: .int .i64 q.length :: .bool false :: undef :: undef :: undef :: undef :: undef :: undef :: .slice A1 p.length c1 :: .func (.func 133) #[] #[.pointer (some ⟨w.heap.size + 1 + 1, 0, none⟩)] :: .int .i64 ((x.1 : Nat) : Int) :: .int .i64 (p[x.1]?.getD 0) :: undef :: undef :: undef :: undef :: undef :: undef :: undef :: undef :: undef :: undef :: undef :: undef :: undef :: []).toArray, defers := [] }) ?assign ?body ?done ?stop
    case hA => exact HAB.out a ha
    case assign =>
      intro l x W K hK
      gi_wp2
      exact hK
    case body =>
      rintro l pre x W' ⟨⟨hp, hq, hcr, hfr⟩, hB⟩ hpl
      have hqx := HR2.out.below hB
      obtain ⟨a2, ha2, hc2⟩ := hqx x.1 (by rw [← HLEN.out]; exact x.2)
      have hxq : (x.1 : Int) < q.length := by have := x.2; have := HLEN.out; omega
      obtain ⟨xi, hxi⟩ := x
      dsimp only at *
      subst ha2
      obtain ⟨y, hy⟩ : ∃ y, q[xi]?.getD 0 = y := ⟨_, rfl⟩
      obtain ⟨z, hz⟩ : ∃ z, p[xi]?.getD 0 = z := ⟨_, rfl⟩
      rw [hy] at hc2
      rw [hz]
      have HY := Lib.hid hy
      have HZ := Lib.hid hz
      have HPP := Lib.hid hp
      have HBB := Lib.hid hB
      clear hy hz hp hB
      by_cases hzy : z = y
      · have hb : (z != y) = false := by simp [hzy]
        have HZY := Lib.hid hzy
        clear hzy
        gi_wp2_with fail
        exact ⟨KeepsOthers.refl _, ⟨Below.refl _ _, rfl⟩, ⟨fun i hi => (List.mem_append.1 hi).elim (HPP.out i) (fun e => by simp at e; subst e; rw [HZ.out, HY.out, HZY.out]), hq, hcr, hfr⟩, HBB.out⟩
      · have hb : (z != y) = true := by simp [hzy]
        have HZY := Lib.hid hzy
        have hzb : -1000000000 ≤ z - y ∧ z - y ≤ 1000000000 := HBD.out xi hxi z y HZ.out HY.out
        obtain ⟨hzb1, hzb2⟩ := hzb
        clear hzy
        gi_wp2_with (refine ⟨trivial, ?_⟩; gi_at_call 120; refine (CallsIn.inRound l (callsIn_wide.2 (sign_c _ _))).mono ?_; rintro e w' ⟨rfl, rfl⟩)
        exact ⟨KeepsOthers.setCell _ _ _, ⟨rfl, pre, ⟨xi, hxi⟩, rfl, HPP.out, by simp only []; rw [HZ.out, HY.out]; exact HZY.out, by simp only []; rw [HZ.out, HY.out]; exact set_same _ hcr⟩, HBB.out.setCell (p := ⟨w.heap.size + 1, 0, none⟩) (by simp) _⟩
    case done =>
      rintro D ys W' hD rfl ⟨⟨hne, hq, hcr, hfr⟩, hB⟩ hK
      have HK := Lib.hid hK
      have HNE := Lib.hid hne
      have HBB := Lib.hid hB
      clear hK hne hB
      gi_wp2
      have hK' := (KeepsOthers.setCell W' ⟨w.heap.size + 1, 0, none⟩ (.int .i64 0)).same D _ HK.out rfl
      refine ⟨by simp, .inl ⟨_, _, rfl, run_takeDeferred hK', ?_⟩⟩
      have hc5 := cell_kept (set_same (.int .i64 0) hcr) (grownBy_putObj' _ D (.deferred none)) (fun r e => by cases e; exact ⟨_, hK', rfl⟩)
      have emn : m = n := CE.out HLEN.out (fun j hj => HNE.out ⟨j, hj⟩ (mem_dn.2 ⟨p.length - 1 - j, by omega, by omega, by simp; omega⟩))
      refine ⟨.int .i64 0, ?_, ⟨by rw [emn, Int.sub_self, sgn_zero], (HBB.out.setCell (p := ⟨w.heap.size + 1, 0, none⟩) (by simp) _).trans (belowK_b (w := w) (Nat.le_refl _) _ D _ _ (by omega) hK' rfl rfl)⟩⟩
      simp [results, Tryz.f77, go_sem, hc5]
    case stop =>
      rintro D c pre W' hD ⟨k, hk, rfl⟩ ⟨⟨rfl, ini, last, e1, e2, e3, hcr⟩, hB⟩ hK
      have HK := Lib.hid hK
      have HBB := Lib.hid hB
      rw [dn_succ _ _ hk] at e1
      obtain ⟨rfl, e5⟩ := List.append_inj' e1 rfl
      have hkk : p.length - 1 - k < p.length := by omega
      have e6 : last = ⟨p.length - 1 - k, hkk⟩ := by simpa using e5.symm
      subst e6
      have hs := CT.out HLEN.out (p.length - 1 - k) (by omega) (fun j h1 h2 => e2 ⟨j, h2⟩ (mem_dn.2 ⟨p.length - 1 - j, by omega, by omega, by simp; omega⟩)) e3
      rw [hs] at hcr
      have HS := Lib.hid hs
      clear hK hB e1 e2 e3 e5 hs
      gi_wp2
      refine ⟨by simp, .inl ⟨_, _, rfl, run_takeDeferred HK.out, ?_⟩⟩
      have hc5 := cell_kept hcr (grownBy_putObj' _ D (.deferred none)) (fun r e => by cases e; exact ⟨_, HK.out, rfl⟩)
      refine ⟨.int .i64 (sgn ((m : Int) - n)), ?_, rfl, HBB.out.trans (belowK_b (w := w) (Nat.le_refl _) W' D _ _ (by omega) HK.out rfl rfl)⟩
      simp [results, Tryz.f77, go_sem, hc5]
  · have CLL := Lib.hid (CL.out hlen)
    have hlb : ((p.length : Int) != (q.length : Int)) = true := by simp; omega
    refine callsIn_wide.2 ?_
    clear hlen
    go_enter Tryz.func77, Tryz.ntmps77
    go_wp2_with (go_at_call 120; refine (sign_c _ _).mono ?_; rintro e w' ⟨rfl, rfl⟩)
    refine bodyPost_ret (v := .int .i64 (sgn ((p.length : Int) - q.length))) (by simp [results, Tryz.results77, go_sem]) rfl ?_
    exact ⟨by rw [CLL.out], (by repeat (first | exact Below.refl _ _ | exact HB.out | (refine Below.alloc ?_ (by first | (simp; done) | (simp; omega)) _) | (refine Below.setCell ?_ (by first | (simp; done) | (simp; omega)) _) | refine Below.drew ?_ | refine below_drewN ?_ _))⟩

theorem compare_c (v1 v2 : Value) (m n : Nat) (w : World) (h1 : Dg 1000000000 w v1 m) (h2 : Dg 1000000000 w v2 n) :
    Calls Tryz.prog 77 #[v1, v2] w fun e w' => e = .returned (.int .i64 (sgn ((m : Int) - n))) ∧ Below w.heap.size w w' :=
  callsIn_wide.1 (compare_in v1 v2 m n w h1 h2)

end Go.Proofs.YtbjgpbdkofadiaaGreatDoor
