/- Texts of this claim, merged: R5. -/
import Derived.Test.YtekbfommnmikbaaGreatDoorQ5
import Derived.Deep.DrawnRows
/- The reference of layer 1: natural numbers, integers. -/
namespace Go.Proofs.YtekbfommnmikbaaGreatDoor
set_option linter.unusedVariables false
set_option linter.unusedSimpArgs false
open Go.RowKit

set_option maxHeartbeats 1000000 in
theorem trim_c (A : Option Addr) (c : Nat) (xs : List Int) (w : World) (hr : Row .i64 w A xs) (hc : xs.length ≤ c) (hm : c ≤ 9223372036854775807) :
    Calls Tryz.prog 160 #[.slice A xs.length c] w (CutP A c xs w) := by
  have HR := Lib.hid hr
  clear hr
  go_enter Tryz.func160, Tryz.ntmps160
  go_wp2
  go_loopg [3] xs.length (fun k n wr => n = .int .i64 k ∧ k ≤ xs.length ∧ Hid (∀ j, k ≤ j → xs[j]?.getD 0 = 0) ∧ wr = w)
  case atStart => exact ⟨rfl, Nat.le_refl _, fun j hj => by rw [List.getElem?_eq_none hj]; rfl, rfl⟩
  case round =>
    obtain ⟨rfl, hk, HZ, rfl⟩ := hrel
    by_cases h0 : gk = 0
    · subst h0
      go_wp2
      go_ret
      exact ⟨rfl, 0, Nat.zero_le _, rfl, HZ.out, .inl rfl⟩
    · obtain ⟨k, rfl⟩ : ∃ k, gk = k + 1 := ⟨gk - 1, by omega⟩
      clear h0
      obtain ⟨a, rfl, hcell⟩ := HR.out k (by omega)
      by_cases hz : xs[k]?.getD 0 = 0
      · rw [hz] at hcell
        have HZ' : Hid (xs[k]?.getD 0 = 0) := hz
        clear hz
        go_wp2
        go_roundg k
        case measure => omega
        case rel =>
          refine ⟨by simp, by omega, fun j hj => ?_, rfl⟩
          by_cases e : j = k
          · subst e; exact HZ'.out
          · exact HZ.out j (by omega)
      · have HZ' : Hid (xs[k]?.getD 0 ≠ 0) := hz
        generalize hx : xs[k]?.getD 0 = x at hcell hz
        have hb : (x == 0) = false := by simpa using hz
        clear hx hz
        go_wp2
        go_ret
        exact ⟨rfl, k + 1, hk, rfl, HZ.out, .inr (by simpa using HZ'.out)⟩

set_option maxHeartbeats 400000 in
theorem digit_c (A : Option Addr) (c : Nat) (xs : List Int) (i : Nat) (w : World) (hr : Row .i64 w A xs) :
    Calls Tryz.prog 237 #[.slice A xs.length c, .int .i64 i] w fun e w' => e = .returned (.int .i64 (xs[i]?.getD 0)) ∧ w = w' := by
  by_cases h : i < xs.length
  · obtain ⟨a, rfl, hc⟩ := hr i h
    clear hr
    go_enter Tryz.func237, Tryz.ntmps237
    go_wp2
    go_ret
    exact ⟨by simp [h], rfl⟩
  · clear hr
    go_enter Tryz.func237, Tryz.ntmps237
    go_wp2
    go_ret
    exact ⟨by rw [List.getElem?_eq_none (by omega)]; rfl, rfl⟩
theorem digit_x (A : Option Addr) (c : Nat) (xs : List Int) (i : Nat) (x : Int) (w : World) (hr : Row .i64 w A xs) (hx : xs[i]?.getD 0 = x) :
    Calls Tryz.prog 237 #[.slice A xs.length c, .int .i64 i] w fun e w' => e = .returned (.int .i64 x) ∧ w = w' := by
  subst hx; exact digit_c A c xs i w hr
theorem digit_q (A : Option Addr) (c : Nat) (xs : List Int) (i : Nat) (x : Int) (w : World) (n : Nat) (hr : Row .i64 w A xs) (hx : xs[i]?.getD 0 = x) :
    Calls Tryz.prog 237 #[.slice A xs.length c, .int .i64 i] (w.drewN n) fun e w' => e = .returned (.int .i64 x) ∧ ∃ m, w' = w.drewN m :=
  (digit_x A c xs i x (w.drewN n) (hr.below (below_drewN (Below.refl _ _) n)) hx).mono fun _ _ ⟨he, hw⟩ => ⟨he, n, hw.symm⟩

attribute [local go_sem] max2_int min2_int max_two min_two
set_option maxHeartbeats 1000000 in
theorem natAdd_c (v1 v2 : Value) (m n : Nat) (w : World) (h1 : Dg 10 w v1 m) (h2 : Dg 10 w v2 n) (hm : (dg 10 m).length ≤ 1000000) (hn : (dg 10 n).length ≤ 1000000) :
    Calls Tryz.prog 216 #[v1, v2] w (DgP 10 (m + n) w) := by
  obtain ⟨A1, c1, rfl, hc1, _, hr1⟩ := h1
  obtain ⟨A2, c2, rfl, hc2, _, hr2⟩ := h2
  have HR1 := Lib.hid hr1
  have HR2 := Lib.hid hr2
  have I1 := Lib.hid (dg_inR (b := 10) (by decide) m)
  have I2 := Lib.hid (dg_inR (b := 10) (by decide) n)
  have V1 := Lib.hid (val_dg (b := 10) (by decide) m)
  have V2 := Lib.hid (val_dg (b := 10) (by decide) n)
  clear hr1 hr2
  generalize dg 10 m = p at *
  generalize dg 10 n = q at *
  obtain ⟨mx, hmx⟩ : ∃ mx : Nat, (if (p.length : Int) < (q.length : Int) then (q.length : Int) else (p.length : Int)) = (mx : Int) := ⟨max p.length q.length, by split <;> omega⟩
  have hmx' : (if p.length < q.length then (q.length : Int) else (p.length : Int)) = (mx : Int) := by
    rw [← hmx]; by_cases h : p.length < q.length
    · rw [if_pos h, if_pos (by omega)]
    · rw [if_neg h, if_neg (by omega)]
  have hmx1 : p.length ≤ mx := by split at hmx <;> omega
  have hmx2 : q.length ≤ mx := by split at hmx <;> omega
  have hmx3 : mx ≤ 1000000 := by split at hmx <;> omega
  go_enter Tryz.func216, Tryz.ntmps216
  go_wp2_with fail
  go_loopg [5, 6, 7] (mx + 1) (fun g v c i wr => ∃ (k : Nat) (cc : Int) (l : List Int), i = .int .i64 k ∧ c = .int .i64 cc ∧ 0 ≤ cc ∧ cc ≤ 1 ∧ k + g = mx + 1 ∧ wr.ownsRow w.heap.size 3 1 v k (l.map (Value.int .i64)) ∧ Hid (l.length = k ∧ InR 10 l ∧ val 10 l + (10 : Int) ^ k * cc = val 10 (p.take k) + val 10 (q.take k)) ∧ Below w.heap.size w wr)
  case atStart => exact ⟨0, 0, [], rfl, rfl, by omega, by omega, by omega, World.ownsRow_nil _ _ _ _, ⟨rfl, InR.nil _, by simp [val]⟩, Below.refl _ _⟩
  case round =>
    obtain ⟨k, cc, l, rfl, rfl, hc0, hc1', hg, hown, HL, hB⟩ := hrel
    have HP := Lib.hid (HR1.out.below hB)
    have HQ := Lib.hid (HR2.out.below hB)
    have HB := Lib.hid hB
    have hsz := hB.size
    clear hB
    by_cases hlt : k < mx + 1
    · obtain ⟨g, rfl⟩ : ∃ g, gk = g + 1 := ⟨gk - 1, by omega⟩
      have b1 := I1.out.at_ (by decide) k
      have b2 := I2.out.at_ (by decide) k
      rw [List.getD_eq_getElem?_getD] at b1 b2
      obtain ⟨x, hx⟩ : ∃ x, p[k]?.getD 0 = x := ⟨_, rfl⟩
      obtain ⟨y, hy⟩ : ∃ y, q[k]?.getD 0 = y := ⟨_, rfl⟩
      rw [hx] at b1
      rw [hy] at b2
      obtain ⟨b10, b11⟩ := b1
      obtain ⟨b20, b21⟩ := b2
      have CP := Lib.hid (digit_x A1 c1 p k x wr HP.out hx)
      have CQ := Lib.hid (digit_x A2 c2 q k y wr HQ.out hy)
      have HX := Lib.hid hx
      have HY := Lib.hid hy
      clear hx hy
      have hkb : k ≤ 1000001 := by omega
      have hkm : decide ((k : Int) ≤ (mx : Int)) = true := decide_eq_true (by omega)
      have hkm2 : decide (k ≤ mx) = true := decide_eq_true (by omega)
      have HG := Lib.hid hg
      clear hg
      go_wp2_with (first
        | (go_at_call 237; (with_reducible refine (CP.out).mono ?_); rintro e w' ⟨rfl, rfl⟩)
        | (go_at_call 237; (with_reducible refine (CQ.out).mono ?_); rintro e w' ⟨rfl, rfl⟩)
        | (at_builtin; obtain ⟨i0, hi, hz0, hz1, hz2⟩ := info_parts info_int; refine wpList_append_own _ rfl _ _ 56 rfl w.heap.size 3 i0 (.int .i64 0) 1 8 Tryz.underlying56 hi hz0 hz1 hz2 rfl (by decide) _ _ _ rfl (hown.alloc _) ⟨wr.heap.size, 0, none⟩ 1 1 [.int .i64 ((x + y + cc) % 10)] rfl rfl (cell_one_new _ _ _) (by simp [Value.oneCell']) (by unfold maxLen; omega) (by omega) (by simp; omega) ?_; intro v' w1 hown1 hgrow1 _; clear hi hz0 hz1 hz2))
      have hd0 : 0 ≤ (x + y + cc) / 10 := by omega
      have hd1 : (x + y + cc) / 10 ≤ 1 := by omega
      go_roundg g
      case measure => omega
      case rel =>
        obtain ⟨hl, hi, hv⟩ := HL.out
        refine ⟨k + 1, _, l ++ [(x + y + cc) % 10], rfl, rfl, hd0, hd1, by have := HG.out; omega, by simpa using hown1, ⟨by simp [hl], hi.snoc (by omega) (by omega), sum_step (b := 10) (by decide) hl hv HX.out HY.out⟩, ?_⟩
        exact (HB.out.alloc hsz _).grown hgrow1 (by simp; omega) (own_from hown)
    · obtain rfl : gk = 0 := by omega
      obtain ⟨hl, hi, hv⟩ := HL.out
      obtain ⟨A, c, hve, hlc, hcm, hrow, hln⟩ := own_row hown
      have hfrom := own_from hown
      have hval := Lib.hid (sum_end (b := 10) (by decide) I1.out I2.out (by omega) (by omega) hl hi hv hc0 V1.out V2.out)
      have HROW := Lib.hid hrow
      have HIN := Lib.hid hi
      have HF := Lib.hid hfrom
      clear hi hv hrow hfrom hown
      subst hve
      have hcm' : c ≤ 9223372036854775807 := by unfold maxLen at hcm; omega
      have hkm : decide ((k : Int) ≤ (mx : Int)) = false := decide_eq_false (by omega)
      have hkm2 : decide (k ≤ mx) = false := decide_eq_false (by omega)
      have hlen : k = l.length := hl.symm
      subst hlen
      go_wp2_with (go_at_call 160; refine (trim_c A c l wr HROW.out hlc hcm').mono ?_; intro e w' hcut; obtain ⟨rfl, v, rfl, hdg, hblk⟩ := cut_dg (b := 10) (by decide) HROW.out hlc hcm' HIN.out hval.out hcut)
      go_ret
      exact ⟨v, rfl, hdg, fun g hg => by obtain ⟨a, rfl, rfl⟩ := hblk g hg; exact HF.out _ rfl, HB.out⟩

/-- One place of a difference, laid behind the others. -/
theorem diff_snoc {b : Nat} {p q l : List Int} {k : Nat} {c x y : Int} {d r : Int} (hl : l.length = k) (hv : val b l - (b : Int) ^ k * c = val b (p.take k) - val b (q.take k)) (hx : p[k]?.getD 0 = x) (hy : q[k]?.getD 0 = y)
    (hd : x - y - c = r - (b : Int) * d) : val b (l ++ [r]) - (b : Int) ^ (k + 1) * d = val b (p.take (k + 1)) - val b (q.take (k + 1)) := by
  rw [val_snoc, val_take_succ, val_take_succ, hl, List.getD_eq_getElem?_getD, List.getD_eq_getElem?_getD, hx, hy, Int.pow_succ]
  generalize (b : Int) ^ k = B at *
  have : B * (x - y - c) = B * (r - (b : Int) * d) := by rw [hd]
  grind

set_option maxRecDepth 100000 in
set_option maxHeartbeats 2000000 in
theorem natSub_c (v1 v2 : Value) (m n : Nat) (w : World) (h1 : Dg 10 w v1 m) (h2 : Dg 10 w v2 n) (hm : (dg 10 m).length ≤ 1000000) (hle : n ≤ m) :
    Calls Tryz.prog 217 #[v1, v2] w (DgP 10 (m - n) w) := by
  obtain ⟨A1, c1, rfl, hc1, _, hr1⟩ := h1
  obtain ⟨A2, c2, rfl, hc2, _, hr2⟩ := h2
  have HR1 := Lib.hid hr1
  have HR2 := Lib.hid hr2
  have I1 := Lib.hid (dg_inR (b := 10) (by decide) m)
  have I2 := Lib.hid (dg_inR (b := 10) (by decide) n)
  have V1 := Lib.hid (val_dg (b := 10) (by decide) m)
  have V2 := Lib.hid (val_dg (b := 10) (by decide) n)
  have hn : (dg 10 n).length ≤ (dg 10 m).length := dg_length_mono (by decide) hle
  clear hr1 hr2
  have HLE := Lib.hid hle
  clear hle
  generalize dg 10 m = p at *
  generalize dg 10 n = q at *
  go_enter Tryz.func217, Tryz.ntmps217
  go_wp2_with fail
  go_loopg [5, 6, 7, 8] p.length (fun g v bo i s8 wr => ∃ (k : Nat) (cc : Int) (l : List Int), i = .int .i64 k ∧ bo = .int .i64 cc ∧ Hid (cc = 0 ∨ cc = 1) ∧ 0 ≤ cc ∧ cc ≤ 1 ∧ k + g = p.length ∧ wr.ownsRow w.heap.size 3 1 v k (l.map (Value.int .i64)) ∧ Hid (l.length = k ∧ InR 10 l ∧ val 10 l - (10 : Int) ^ k * cc = val 10 (p.take k) - val 10 (q.take k)) ∧ Below w.heap.size w wr)
  case atStart => exact ⟨0, 0, [], rfl, rfl, .inl rfl, by omega, by omega, by omega, World.ownsRow_nil _ _ _ _, ⟨rfl, InR.nil _, by simp [val]⟩, Below.refl _ _⟩
  case round =>
    obtain ⟨k, cc, l, rfl, rfl, HC, hcc0, hcc1, hg, hown, HL, hB⟩ := hrel
    have HP := Lib.hid (HR1.out.below hB)
    have HQ := Lib.hid (HR2.out.below hB)
    have HB := Lib.hid hB
    have hsz := hB.size
    clear hB
    by_cases hlt : k < p.length
    · obtain ⟨g, rfl⟩ : ∃ g, gk = g + 1 := ⟨gk - 1, by omega⟩
      have HG := Lib.hid hg
      clear hg
      obtain ⟨b10, b11⟩ := I1.out.at_ (by decide) k
      obtain ⟨b20, b21⟩ := I2.out.at_ (by decide) k
      rw [List.getD_eq_getElem?_getD] at b10 b11 b20 b21
      obtain ⟨a, rfl, hcell⟩ := HP.out k hlt
      obtain ⟨x, hx⟩ : ∃ x, p[k]?.getD 0 = x := ⟨_, rfl⟩
      obtain ⟨y, hy⟩ : ∃ y, q[k]?.getD 0 = y := ⟨_, rfl⟩
      rw [hx] at b10 b11 hcell
      rw [hy] at b20 b21
      obtain ⟨hll, hli, hlv⟩ := HL.out
      have HX := Lib.hid hx
      have HY := Lib.hid hy
      have HLL := Lib.hid hll
      have HLV := Lib.hid hlv
      have HLI := Lib.hid hli
      clear hx hy hlv hli hll
      by_cases hneg : x - y - cc < 0
      · go_wp2_with fail
        go_quiet ((go_at_call 237; exact digit_q A2 c2 q k y wr _ HQ.out HY.out))
        have hownd := own_drewN hown nq
        have hbd := below_drewN HB.out nq
        go_wp2_with (at_builtin; obtain ⟨i0, hi, hz0, hz1, hz2⟩ := info_parts info_int; refine wpList_append_own _ rfl _ _ 56 rfl w.heap.size 3 i0 (.int .i64 0) 1 8 Tryz.underlying56 hi hz0 hz1 hz2 rfl (by decide) _ _ _ rfl (hownd.alloc _) ⟨wr.heap.size, 0, none⟩ 1 1 [.int .i64 (x - y - cc + 10)] rfl rfl (cell_one_new _ _ _) (by simp [Value.oneCell']) (by unfold maxLen; omega) (by omega) (by simp; omega) ?_; intro v' w1 hown1 hgrow1 _; clear hi hz0 hz1 hz2)
        go_roundg g
        case measure => omega
        case rel =>
          refine ⟨k + 1, _, l ++ [x - y - cc + 10], rfl, rfl, .inr rfl, by omega, by omega, by have := HG.out; omega, by simpa using hown1, ⟨by simp [HLL.out], HLI.out.snoc (by omega) (by omega), diff_snoc (b := 10) HLL.out HLV.out HX.out HY.out (by omega)⟩, ?_⟩
          exact (hbd.alloc hsz _).grown hgrow1 (by simp; omega) (own_from hownd)
      · go_wp2_with fail
        go_quiet ((go_at_call 237; exact digit_q A2 c2 q k y wr _ HQ.out HY.out))
        have hownd := own_drewN hown nq
        have hbd := below_drewN HB.out nq
        go_wp2_with (at_builtin; obtain ⟨i0, hi, hz0, hz1, hz2⟩ := info_parts info_int; refine wpList_append_own _ rfl _ _ 56 rfl w.heap.size 3 i0 (.int .i64 0) 1 8 Tryz.underlying56 hi hz0 hz1 hz2 rfl (by decide) _ _ _ rfl (hownd.alloc _) ⟨wr.heap.size, 0, none⟩ 1 1 [.int .i64 (x - y - cc)] rfl rfl (cell_one_new _ _ _) (by simp [Value.oneCell']) (by unfold maxLen; omega) (by omega) (by simp; omega) ?_; intro v' w1 hown1 hgrow1 _; clear hi hz0 hz1 hz2)
        go_roundg g
        case measure => omega
        case rel =>
          refine ⟨k + 1, _, l ++ [x - y - cc], rfl, rfl, .inl rfl, by omega, by omega, by have := HG.out; omega, by simpa using hown1, ⟨by simp [HLL.out], HLI.out.snoc (by omega) (by omega), diff_snoc (b := 10) HLL.out HLV.out HX.out HY.out (by omega)⟩, ?_⟩
          exact (hbd.alloc hsz _).grown hgrow1 (by simp; omega) (own_from hownd)
    · obtain rfl : k = p.length := by omega
      obtain ⟨hl, hi, hv⟩ := HL.out
      have hval := Lib.hid (diff_end (b := 10) (by decide) hl hi (by rw [List.take_of_length_le (by omega)]; exact hv) HC.out V1.out V2.out hn HLE.out)
      obtain ⟨A, c, hve, hlc, hcm, hrow, hln⟩ := own_row hown
      have hfrom := own_from hown
      have HROW := Lib.hid hrow
      have HIN := Lib.hid hi
      have HF := Lib.hid hfrom
      clear hi hv hrow hfrom hown
      subst hve
      have hcm' : c ≤ 9223372036854775807 := by unfold maxLen at hcm; omega
      have HLL := Lib.hid hl
      clear hl hln
      go_wp2_with (go_at_call 160; refine (trim_c A c l wr HROW.out hlc hcm').mono ?_; intro e w' hcut; obtain ⟨rfl, v, rfl, hdg, hblk⟩ := cut_dg (b := 10) (by decide) HROW.out hlc hcm' HIN.out hval.out hcut)
      go_ret
      exact ⟨v, rfl, hdg, fun g hg => by obtain ⟨a, rfl, rfl⟩ := hblk g hg; exact HF.out _ rfl, HB.out⟩

set_option maxRecDepth 100000 in
set_option maxHeartbeats 2000000 in
theorem natCmp_c (v1 v2 : Value) (m n : Nat) (w : World) (h1 : Dg 10 w v1 m) (h2 : Dg 10 w v2 n) (hm : (dg 10 m).length ≤ 1000000) (hn : (dg 10 n).length ≤ 1000000) :
    Calls Tryz.prog 183 #[v1, v2] w fun e w' => e = .returned (.int .i64 (sgn ((m : Int) - n))) ∧ Below w.heap.size w w' := by
  obtain ⟨A1, c1, rfl, hc1, hm1, hr1⟩ := h1
  obtain ⟨A2, c2, rfl, hc2, hm2, hr2⟩ := h2
  have HR1 := Lib.hid hr1
  have HR2 := Lib.hid hr2
  have CL := Lib.hid (@cmp_len 10 (by decide) m n)
  have CT := Lib.hid (@cmp_top 10 (by decide) m n)
  have CE := Lib.hid (@cmp_eq 10 (by decide) m n)
  clear hr1 hr2
  generalize dg 10 m = p at *
  generalize dg 10 n = q at *
  by_cases hlen : p.length = q.length
  · have HLEN := Lib.hid hlen
    have hlb : ((p.length : Int) != (q.length : Int)) = false := by simp [hlen]
    have hlb2 : ((p.length : Int) == (q.length : Int)) = true := by simp [hlen]
    clear hlen
    go_enter Tryz.func183, Tryz.ntmps183
    go_wp2_with fail
    go_loopg [5] p.length (fun g i wr => i = .int .i64 ((g : Int) - 1) ∧ g ≤ p.length ∧ Hid (∀ j, g ≤ j → j < p.length → p[j]?.getD 0 = q[j]?.getD 0) ∧ Hid (Below w.heap.size w wr))
    case atStart => exact ⟨rfl, Nat.le_refl _, fun j h1 h2 => by omega, Below.refl _ _⟩
    case round =>
      obtain ⟨rfl, hk, HEQ, HB⟩ := hrel
      have HP := Lib.hid (HR1.out.below HB.out)
      have HQ := Lib.hid (HR2.out.below HB.out)
      by_cases h0 : gk = 0
      · subst h0
        have hz : sgn ((m : Int) - n) = 0 := by
          have e := CE.out HLEN.out (fun j hj => HEQ.out j (Nat.zero_le _) hj)
          subst e
          rw [Int.sub_self]; exact sgn_zero
        go_wp2
        go_ret
        exact ⟨by rw [hz]; rfl, HB.out⟩
      · obtain ⟨k, rfl⟩ : ∃ k, gk = k + 1 := ⟨gk - 1, by omega⟩
        clear h0
        have hkq : k < q.length := by have := HLEN.out; omega
        obtain ⟨a1, rfl, hx1⟩ := HP.out k (by omega)
        obtain ⟨a2, rfl, hy1⟩ := HQ.out k hkq
        rw [show (((k + 1 : Nat) : Int) - 1) = (k : Int) by omega]
        have hi0 : (0 : Int) ≤ (k : Int) := by omega
        have hi1 : (k : Int) < (p.length : Int) := by omega
        have hi2 : (k : Int) < (q.length : Int) := by omega
        obtain ⟨x, hx⟩ : ∃ x, p[k]?.getD 0 = x := ⟨_, rfl⟩
        obtain ⟨y, hy⟩ : ∃ y, q[k]?.getD 0 = y := ⟨_, rfl⟩
        rw [hx] at hx1
        rw [hy] at hy1
        have HX := Lib.hid hx
        have HY := Lib.hid hy
        clear hx hy
        rcases Int.lt_trichotomy x y with h | h | h
        · have hs : sgn ((m : Int) - n) = -1 := by
            rw [← CT.out HLEN.out k (by omega) (fun j h1 h2 => HEQ.out j (by omega) h2) (by rw [HX.out, HY.out]; omega), HX.out, HY.out]; exact sgn_lt (by omega)
          go_wp2_with fail
          go_quiet (fail)
          go_wp2_with fail
          go_ret
          exact ⟨by rw [hs]; rfl, below_drewN HB.out nq⟩
        · subst h
          go_wp2_with fail
          go_quiet (fail)
          go_wp2_with fail
          go_quiet (fail)
          go_wp2_with fail
          go_roundg k
          case measure => omega
          case rel =>
            refine ⟨rfl, by omega, fun j h1 h2 => ?_, by repeat (first | exact HB.out | refine below_drewN ?_ _)⟩
            by_cases e : j = k
            · subst e; rw [HX.out, HY.out]
            · exact HEQ.out j (by omega) h2
        · have hs : sgn ((m : Int) - n) = 1 := by
            rw [← CT.out HLEN.out k (by omega) (fun j h1 h2 => HEQ.out j (by omega) h2) (by rw [HX.out, HY.out]; omega), HX.out, HY.out]; exact sgn_gt (by omega)
          have hxy : ¬ x < y := by omega
          go_wp2_with fail
          go_quiet (fail)
          go_wp2_with fail
          go_quiet (fail)
          go_wp2_with fail
          go_ret
          exact ⟨by rw [hs]; rfl, by repeat (first | exact HB.out | refine below_drewN ?_ _)⟩
  · have hlb : ((p.length : Int) != (q.length : Int)) = true := by simp; omega
    have hlb2 : ((p.length : Int) == (q.length : Int)) = false := by simp; omega
    have CLL := Lib.hid (CL.out hlen)
    by_cases hlt : p.length < q.length
    · have h1 : sgn ((m : Int) - n) = -1 := by rw [← CLL.out]; exact sgn_lt (by omega)
      clear hlen
      go_enter Tryz.func183, Tryz.ntmps183
      go_wp2
      go_ret
      exact ⟨by rw [h1]; rfl, Below.refl _ _⟩
    · have h1 : sgn ((m : Int) - n) = 1 := by rw [← CLL.out]; exact sgn_gt (by omega)
      clear hlen
      go_enter Tryz.func183, Tryz.ntmps183
      go_wp2
      go_ret
      exact ⟨by rw [h1]; rfl, Below.refl _ _⟩
end Go.Proofs.YtekbfommnmikbaaGreatDoor

namespace Go.Proofs.YtekbfommnmikbaaGreatDoor
set_option linter.unusedVariables false
set_option linter.unusedSimpArgs false
open Go.RowKit

theorem make_nat (m : Nat) (a : Int) (ha : a = (m : Int)) (hn : m ≤ 10000000) :
    ∀ W : World, (Instr.makeSlice 56 (.int .i64 a) (.int .i64 a)).run Tryz.prog W = .ok (.slice (some ⟨W.heap.size, 0, none⟩) m m) (W.alloc (.cells (madeCells #[.int .i64 0] m) 3)) := by
  intro W
  subst ha
  exact run_make_row' 56 3 (.int .i64 0) 8 Tryz.underlying56 info_int rfl .i64 .i64 m (by omega) (by omega) W

/-- The end of a row of a product: what is carried goes to a place that is 0. -/
theorem mul_last {b : Nat} {p q l : List Int} {i : Nat} {c x : Int} (hx : p[i]?.getD 0 = x) (hil : i + q.length < l.length) (hz : l[i + q.length]?.getD 0 = 0)
    (hv : val b l + (b : Int) ^ (i + q.length) * c = val b (p.take i) * val b q + (b : Int) ^ i * (x * val b (q.take q.length))) : val b (l.set (i + q.length) c) = val b (p.take (i + 1)) * val b q := by
  rw [val_set _ _ _ _ hil, List.getD_eq_getElem?_getD, hz, val_take_succ, List.getD_eq_getElem?_getD, hx]
  rw [show q.take q.length = q from List.take_of_length_le (Nat.le_refl _)] at hv
  grind

set_option maxRecDepth 100000 in
set_option maxHeartbeats 4000000 in
theorem natMul_c (v1 v2 : Value) (m n : Nat) (w : World) (h1 : Dg 10 w v1 m) (h2 : Dg 10 w v2 n) (hm : (dg 10 m).length ≤ 1000000) (hn : (dg 10 n).length ≤ 1000000) :
    Calls Tryz.prog 181 #[v1, v2] w (DgP 10 (m * n) w) := by
  obtain ⟨A1, c1, rfl, hc1, _, hr1⟩ := h1
  obtain ⟨A2, c2, rfl, hc2, _, hr2⟩ := h2
  have HR1 := Lib.hid hr1
  have HR2 := Lib.hid hr2
  have I1 := Lib.hid (dg_inR (b := 10) (by decide) m)
  have I2 := Lib.hid (dg_inR (b := 10) (by decide) n)
  have V1 := Lib.hid (val_dg (b := 10) (by decide) m)
  have V2 := Lib.hid (val_dg (b := 10) (by decide) n)
  clear hr1 hr2
  generalize dg 10 m = p at *
  generalize dg 10 n = q at *
  have hmk := make_nat (p.length + q.length) (↑p.length + ↑q.length) (by simp) (by omega)
  obtain ⟨N, hN⟩ : ∃ N, p.length + q.length = N := ⟨_, rfl⟩
  rw [hN] at hmk
  go_enter Tryz.func181, Tryz.ntmps181
  go_wp2_with fail
  clear hmk
  have hown0 := own_zeros w N (by omega)
  have hB0 := (Below.refl w.heap.size w).alloc (Nat.le_refl _) (.cells (madeCells #[.int .i64 0] N) 3)
  generalize w.alloc (.cells (madeCells #[.int .i64 0] N) 3) = w0 at *
  have HN := Lib.hid hN
  have HB0 := Lib.hid hB0
  have HO0 := Lib.hid hown0
  clear hN hB0 hown0
  go_loopg [6, 7, 8, 9] p.length (fun g iv s7 s8 s9 wr => ∃ (i : Nat) (l : List Int), iv = .int .i64 i ∧ i + g = p.length ∧ Hid (wr.ownsRow w.heap.size 3 1 (.slice (some ⟨w.heap.size, 0, none⟩) N N) N (l.map (Value.int .i64))) ∧ Hid (l.length = N ∧ InR 10 l ∧ (∀ j, i + q.length ≤ j → l[j]?.getD 0 = 0) ∧ val 10 l = val 10 (p.take i) * val 10 q) ∧ Hid (Below w.heap.size w wr))
  case atStart => exact ⟨0, List.replicate N 0, rfl, by omega, HO0.out, ⟨by simp, InR.replicate (by decide) _, fun j _ => by rw [List.getElem?_replicate]; split <;> rfl, by simp [val_replicate, val]⟩, HB0.out⟩
  case round =>
    obtain ⟨i, l, rfl, hg, HOW, HL, HB⟩ := hrel
    by_cases hlt : i < p.length
    · obtain ⟨g, rfl⟩ : ∃ g, gk = g + 1 := ⟨gk - 1, by omega⟩
      have HG := Lib.hid hg
      clear hg
      obtain ⟨b10, b11⟩ := I1.out.at_ (by decide) i
      rw [List.getD_eq_getElem?_getD] at b10 b11
      obtain ⟨x, hx⟩ : ∃ x, p[i]?.getD 0 = x := ⟨_, rfl⟩
      rw [hx] at b10 b11
      have HX := Lib.hid hx
      clear hx
      go_wp2_with fail
      go_loopg [7, 8, 9] q.length (fun g cv kv s9 w3 => ∃ (k : Nat) (c : Int) (l2 : List Int), kv = .int .i64 k ∧ cv = .int .i64 c ∧ k + g = q.length ∧ 0 ≤ c ∧ c < 10 ∧ Hid (w3.ownsRow w.heap.size 3 1 (.slice (some ⟨w.heap.size, 0, none⟩) N N) N (l2.map (Value.int .i64)))
        ∧ Hid (l2.length = N ∧ InR 10 l2 ∧ (∀ j, i + q.length ≤ j → l2[j]?.getD 0 = 0) ∧ val 10 l2 + (10 : Int) ^ (i + k) * c = val 10 (p.take i) * val 10 q + (10 : Int) ^ i * (x * val 10 (q.take k))) ∧ Hid (Below w.heap.size w w3))
      case atStart => exact ⟨0, 0, l, rfl, rfl, by omega, by omega, by omega, HOW.out, ⟨HL.out.1, HL.out.2.1, HL.out.2.2.1, by rw [HL.out.2.2.2]; simp [val]⟩, HB.out⟩
      case round =>
        obtain ⟨k, c, l2, rfl, rfl, hg, hc0, hc1', HOW3, HL3, HB3⟩ := hrel
        have hNi : i + q.length < N := by have := HN.out; omega
        have hNm : N ≤ 2000000 := by have := HN.out; omega
        by_cases hlt2 : k < q.length
        · obtain ⟨g, rfl⟩ : ∃ g, gk = g + 1 := ⟨gk - 1, by omega⟩
          have HG3 := Lib.hid hg
          clear hg
          have HP := Lib.hid (HR1.out.below HB3.out)
          have HQ := Lib.hid (HR2.out.below HB3.out)
          obtain ⟨b20, b21⟩ := I2.out.at_ (by decide) k
          rw [List.getD_eq_getElem?_getD] at b20 b21
          obtain ⟨y, hy⟩ : ∃ y, q[k]?.getD 0 = y := ⟨_, rfl⟩
          rw [hy] at b20 b21
          obtain ⟨m0, m1⟩ := mul_bound b10 b11 b20 b21
          obtain ⟨hll, hli, hlz, hlv⟩ := HL3.out
          obtain ⟨z0, z1⟩ := hli.at_ (by decide) (i + k)
          rw [List.getD_eq_getElem?_getD] at z0 z1
          have hcz := own_cell HOW3.out (i + k) (by omega) hll
          have hfz : wr.frozen? ⟨w.heap.size, i + k, none⟩ = false := HOW3.out.frozenAt (i + k)
          obtain ⟨z, hz⟩ : ∃ z, l2[i + k]?.getD 0 = z := ⟨_, rfl⟩
          rw [hz] at z0 z1 hcz
          obtain ⟨a1, rfl, hcell⟩ := HP.out i hlt
          obtain ⟨a2, rfl, hcell2⟩ := HQ.out k hlt2
          rw [HX.out] at hcell
          rw [hy] at hcell2
          have HY := Lib.hid hy
          have HZ := Lib.hid hz
          have HLI := Lib.hid hli
          have HLL := Lib.hid hll
          have HLZ := Lib.hid hlz
          have HLV := Lib.hid hlv
          clear hy hz hli hlv hlz hll
          have hxy : x * y ≤ 81 := by simpa using m1
          clear m1
          have j0 : (0 : Int) ≤ (i : Int) + (k : Int) := by omega
          have j1 : (i : Int) + (k : Int) < (N : Int) := by omega
          have j2 : (i : Int) < (p.length : Int) := by omega
          have j3 : (k : Int) < (q.length : Int) := by omega
          have j4 : (0 : Int) ≤ (i : Int) := by omega
          have j5 : (0 : Int) ≤ (k : Int) := by omega
          go_wp2_with fail
          go_quiet (fail)
          go_wp2
          go_roundg g
          case measure => omega
          case rel =>
            refine ⟨k + 1, (z + x * y + c) / 10, l2.set (i + k) ((z + x * y + c) % 10), rfl, rfl, by have := HG3.out; omega, by omega, by omega, ?_, ⟨by simpa using HLL.out, HLI.out.set _ (by omega) (by omega), fun j hj => ?_, mul_step (b := 10) (by have := HLL.out; omega) HLV.out HY.out HZ.out rfl (by omega)⟩, ?_⟩
            · exact own_drewN (store_own HOW3.out _ _) nq
            · rw [List.getElem?_set_ne (by omega)]; exact HLZ.out j hj
            · exact below_drewN (HB3.out.setCell (p := ⟨w.heap.size, i + k, none⟩) (Nat.le_refl _) _) nq
        · obtain rfl : k = q.length := by omega
          obtain ⟨hll, hli, hlz, hlv⟩ := HL3.out
          have hcz := own_cell HOW3.out (i + q.length) (by omega) hll
          have hfz : wr.frozen? ⟨w.heap.size, i + q.length, none⟩ = false := HOW3.out.frozenAt (i + q.length)
          rw [hlz _ (Nat.le_refl _)] at hcz
          have hrow := Lib.hid (mul_last (b := 10) HX.out (by omega) (hlz _ (Nat.le_refl _)) hlv)
          have HLI := Lib.hid hli
          have HLL := Lib.hid hll
          have HLZ := Lib.hid hlz
          clear hli hlv hlz hll
          have j0 : (0 : Int) ≤ (i : Int) + (q.length : Int) := by omega
          have j1 : (i : Int) + (q.length : Int) < (N : Int) := by omega
          go_wp2
          go_roundg g
          case measure => omega
          case rel =>
            refine ⟨i + 1, l2.set (i + q.length) c, rfl, by have := HG.out; omega, store_own HOW3.out _ _, ⟨by simpa using HLL.out, HLI.out.set _ (by omega) (by omega), fun j hj => ?_, hrow.out⟩, HB3.out.setCell (p := ⟨w.heap.size, i + q.length, none⟩) (Nat.le_refl _) _⟩
            rw [List.getElem?_set_ne (by omega)]; exact HLZ.out j (by omega)
    · obtain rfl : i = p.length := by omega
      obtain ⟨hl, hi, hz, hv⟩ := HL.out
      have hval : val 10 l = ((m * n : Nat) : Int) := by rw [hv, List.take_of_length_le (Nat.le_refl _), V1.out, V2.out]; simp
      have HVAL := Lib.hid hval
      obtain ⟨A', c', hve, hlc', hcm', hrow, hln⟩ := own_row HOW.out
      obtain ⟨hA, -, hC⟩ := Value.slice.inj hve
      subst hA; subst hC
      have HROW := Lib.hid hrow
      have HIN := Lib.hid hi
      have hcm2 : N ≤ 9223372036854775807 := by unfold maxLen at hcm'; omega
      have hlc2 : l.length ≤ N := hlc'
      clear hi hv hrow hve hln hcm' hlc' HL HOW hval hz
      have hlen := Lib.hid hl
      clear hl
      go_wp2_with (go_at_call 160; rw [show (Value.slice (some ⟨w.heap.size, 0, none⟩) N N) = Value.slice (some ⟨w.heap.size, 0, none⟩) l.length N from by rw [hlen.out]]; refine (trim_c _ N l wr HROW.out hlc2 hcm2).mono ?_; intro e w' hcut; obtain ⟨rfl, v, rfl, hdg, hblk⟩ := cut_dg (b := 10) (by decide) HROW.out hlc2 hcm2 HIN.out HVAL.out hcut)
      go_ret
      exact ⟨v, rfl, hdg, fun g hg => by obtain ⟨a, ha, rfl⟩ := hblk g hg; cases ha; exact Nat.le_refl _, HB.out⟩
end Go.Proofs.YtekbfommnmikbaaGreatDoor

namespace Go.Proofs.YtekbfommnmikbaaGreatDoor
set_option linter.unusedVariables false
set_option linter.unusedSimpArgs false
open Go.RowKit

/-- v is the reference's integer z. -/
def Ri (w : World) (v : Value) (z : Int) : Prop := ∃ p, v = .agg #[p, .bool (decide (z < 0))] ∧ Dg 10 w p z.natAbs
theorem Ri.below {w w' : World} {v : Value} {z : Int} (h : Ri w v z) (hb : Below w.heap.size w w') : Ri w' v z := by
  obtain ⟨p, e, hp⟩ := h
  exact ⟨p, e, hp.below hb⟩
theorem Ri.form {w : World} {v : Value} {z : Int} (h : Ri w v z) : ∃ A n c b, v = .agg #[.slice A n c, .bool b] := by
  obtain ⟨p, rfl, A, c, rfl, _⟩ := h
  exact ⟨_, _, _, _, rfl⟩
/-- A call returns the reference's integer z, newly. -/
def RiP (z : Int) (w : World) (e : Ending) (w' : World) : Prop := ∃ v, e = .returned v ∧ Ri w' v z ∧ Below w.heap.size w w'

/-- Two stores into a box that lies ahead of the digits. -/
theorem ri_set {W2 : World} {B n : Nat} {p : Value} (b : Bool) {z0 z1 : Value} (h0 : W2.cell? ⟨B, 0, none⟩ = some z0) (h1 : W2.cell? ⟨B, 1, none⟩ = some z1) (hd : Dg 10 W2 p n) (hf : FromB (B + 1) p) :
    ∃ F, (W2.setCell ⟨B, 0, none⟩ p).setCell ⟨B, 1, none⟩ (.bool b) = F ∧ F.cell? ⟨B, 0, none⟩ = some p ∧ F.cell? ⟨B, 1, none⟩ = some (.bool b) ∧ Dg 10 F p n ∧ (∀ k w, k ≤ B → Below k w W2 → Below k w F) :=
  ⟨_, rfl, set_other _ (by simp) (set_same _ h0), set_same _ (set_other _ (by simp) h1), (hd.set hf (by simp) _).set hf (by simp) _, fun k w hk hb => (hb.setCell hk _).setCell hk _⟩

theorem neq_form (a b : Bool) : (!a == b) = (a != b) := by cases a <;> cases b <;> rfl
theorem prod_sign (x y : Int) : ((decide (x < 0) != decide (y < 0)) && decide (0 < x.natAbs * y.natAbs)) = decide (x * y < 0) := by
  rw [← mul_sign]
  cases decide (x < 0) <;> cases decide (y < 0) <;> rfl

set_option maxRecDepth 100000 in
set_option maxHeartbeats 2000000 in
theorem rproduct_c (v1 v2 : Value) (x y : Int) (w : World) (h1 : Ri w v1 x) (h2 : Ri w v2 y) (hm : (dg 10 x.natAbs).length ≤ 1000000) (hn : (dg 10 y.natAbs).length ≤ 1000000) :
    Calls Tryz.prog 124 #[v1, v2] w (RiP (x * y) w) := by
  obtain ⟨p, rfl, hp⟩ := h1
  obtain ⟨q, rfl, hq⟩ := h2
  have hs := prod_sign x y
  obtain ⟨L, hL⟩ : ∃ L, (dg 10 (x.natAbs * y.natAbs)).length = L := ⟨_, rfl⟩
  have hl0 : decide (0 < x.natAbs * y.natAbs) = decide (0 < L) := by
    have h := dg_eq_nil (b := 10) (n := x.natAbs * y.natAbs) (by decide)
    rw [← List.length_eq_zero_iff, hL] at h
    rw [Bool.eq_iff_iff, decide_eq_true_iff, decide_eq_true_iff]; omega
  rw [hl0] at hs
  obtain ⟨s, hss⟩ : ∃ s, decide (x * y < 0) = s := ⟨_, rfl⟩
  rw [hss] at hs
  have HSS := Lib.hid hss
  have HL := Lib.hid hL
  have HM := Lib.hid (And.intro hm hn)
  obtain ⟨bx, hbx⟩ : ∃ b, decide (x < 0) = b := ⟨_, rfl⟩
  obtain ⟨by_, hby⟩ : ∃ b, decide (y < 0) = b := ⟨_, rfl⟩
  rw [hbx, hby] at hs
  rw [hbx, hby]
  obtain ⟨W, hW, hh0, hh1, hh2, hbel, hsz⟩ := boxes3h w #[p, .bool bx] #[q, .bool by_] #[.slice none 0 0, .bool false] 58 58 58
  have c00 := heap_box hh0 0; have c01 := heap_box hh0 1; have c10 := heap_box hh1 0; have c11 := heap_box hh1 1; have c20 := heap_box hh2 0; have c21 := heap_box hh2 1
  have f20 := free_of_heap hh2 0; have f21 := free_of_heap hh2 1
  simp at c00 c01 c10 c11 c20 c21
  have HP := Lib.hid (hp.below hbel.to)
  have HQ := Lib.hid (hq.below hbel.to)
  have HBEL := Lib.hid hbel.to
  have HSZ := Lib.hid hsz
  have HS := Lib.hid hs
  obtain ⟨A1, n1, c1, rfl⟩ := hp.form
  obtain ⟨A2, n2, c2, rfl⟩ := hq.form
  clear hp hq hh0 hh1 hh2 hbel hsz hm hn hbx hby hs hss hL hl0
  go_enter Tryz.func124, Tryz.ntmps124
  go_wp2_with (go_at_call 181; (with_reducible refine (natMul_c _ _ x.natAbs y.natAbs _ HP.out HQ.out HM.out.1 HM.out.2).mono ?_); rintro e W2 ⟨u, rfl, hu, hfu, hbz⟩; have HU := Lib.hid hu; have HFU := Lib.hid hfu; obtain ⟨A, c, hv, -, -, -⟩ := hu; rw [HL.out] at hv; subst hv; have f20 := keep_free' hbz c20 f20; have f21 := keep_free' hbz c21 f21; have c00 := keep_cell hbz c00; have c01 := keep_cell hbz c01; have c10 := keep_cell hbz c10; have c11 := keep_cell hbz c11; have c20 := keep_cell hbz c20; have c21 := keep_cell hbz c21; have HB2 := Lib.hid (below_then' HBEL.out hbz); clear hbz hfu)
  · obtain ⟨F, hF, r0, r1, hd, hbf⟩ := ri_set false c20 c21 HU.out (HFU.out.mono (by have := HSZ.out; omega))
    rw [hF]
    refine bodyPost_ret (v := .agg #[.slice A L c, .bool false]) (by simp [results, Tryz.results124, go_sem, r0, r1]) rfl ?_
    have hsf := HS.out
    rename_i hbe
    rw [hbe, bne_self_eq_false, Bool.false_and] at hsf
    exact ⟨_, rfl, ⟨_, by rw [HSS.out, hsf], by rw [Int.natAbs_mul]; exact hd⟩, hbf _ _ (by omega) HB2.out⟩
  · obtain ⟨F, hF, r0, r1, hd, hbf⟩ := ri_set (!bx == by_ && decide (0 < L)) c20 c21 HU.out (HFU.out.mono (by have := HSZ.out; omega))
    rw [hF]
    refine bodyPost_ret (v := .agg #[.slice A L c, .bool (!bx == by_ && decide (0 < L))]) (by simp [results, Tryz.results124, go_sem, r0, r1]) rfl ?_
    exact ⟨_, rfl, ⟨_, by rw [neq_form, HS.out, HSS.out], by rw [Int.natAbs_mul]; exact hd⟩, hbf _ _ (by omega) HB2.out⟩
end Go.Proofs.YtekbfommnmikbaaGreatDoor

namespace Go.Proofs.YtekbfommnmikbaaGreatDoor
set_option linter.unusedVariables false
set_option linter.unusedSimpArgs false
open Go.RowKit

theorem boxes2h (w : World) (a0 a1 : Array Value) (t0 t1 : TypeId) : ∃ W, (w.alloc (.cells a0 t0)).alloc (.cells a1 t1) = W ∧ W.heap[w.heap.size]? = some (.cells a0 t0 (0, 0)) ∧ W.heap[w.heap.size + 1]? = some (.cells a1 t1 (0, 0)) ∧ Bel w.heap.size w W ∧ W.heap.size = w.heap.size + 1 + 1 :=
  ⟨_, rfl, heap_old _ (heap_alloc_new _ _), heap_new' _ _ _ (by simp), ((Bel.refl _ _ (Nat.le_refl _)).alloc _).alloc _, by simp⟩
/-- Two stores into a box above, the digits lying below. -/
theorem ri_old {w W2 : World} {B n : Nat} {p : Value} (b : Bool) {z0 z1 : Value} (h0 : W2.cell? ⟨B, 0, none⟩ = some z0) (h1 : W2.cell? ⟨B, 1, none⟩ = some z1) (hd : Dg 10 w p n) (hb : Below w.heap.size w W2) (hB : w.heap.size ≤ B) :
    ∃ F, (W2.setCell ⟨B, 0, none⟩ p).setCell ⟨B, 1, none⟩ (.bool b) = F ∧ F.cell? ⟨B, 0, none⟩ = some p ∧ F.cell? ⟨B, 1, none⟩ = some (.bool b) ∧ Dg 10 F p n ∧ Below w.heap.size w F :=
  ⟨_, rfl, set_other _ (by simp) (set_same _ h0), set_same _ (set_other _ (by simp) h1), hd.below ((hb.setCell (p := ⟨B, 0, none⟩) hB _).setCell (p := ⟨B, 1, none⟩) hB _), (hb.setCell (p := ⟨B, 0, none⟩) hB _).setCell (p := ⟨B, 1, none⟩) hB _⟩
/-- The length of the digits tells 0. -/
theorem len_pos (n : Nat) : decide (0 < n) = decide (0 < (dg 10 n).length) := by
  have h := dg_eq_nil (b := 10) (n := n) (by decide)
  rw [← List.length_eq_zero_iff] at h
  rw [Bool.eq_iff_iff, decide_eq_true_iff, decide_eq_true_iff]; omega
theorem opp_sign (x : Int) : (!decide (x < 0) && decide (0 < x.natAbs)) = decide (-x < 0) := by
  rw [Bool.eq_iff_iff]; simp; omega

set_option maxRecDepth 100000 in
set_option maxHeartbeats 2000000 in
theorem rminus_c (v1 : Value) (x : Int) (w : World) (h1 : Ri w v1 x) :
    Calls Tryz.prog 177 #[v1] w (RiP (-x) w) := by
  obtain ⟨p, rfl, hp⟩ := h1
  have hs := opp_sign x
  rw [len_pos] at hs
  obtain ⟨L, hL⟩ : ∃ L, (dg 10 x.natAbs).length = L := ⟨_, rfl⟩
  rw [hL] at hs
  obtain ⟨s, hss⟩ : ∃ s, decide (-x < 0) = s := ⟨_, rfl⟩
  rw [hss] at hs
  have HSS := Lib.hid hss
  obtain ⟨bx, hbx⟩ : ∃ b, decide (x < 0) = b := ⟨_, rfl⟩
  rw [hbx] at hs
  rw [hbx]
  obtain ⟨W, hW, hh0, hh1, hbel, hsz⟩ := boxes2h w #[p, .bool bx] #[.slice none 0 0, .bool false] 58 58
  have c00 := heap_box hh0 0; have c01 := heap_box hh0 1; have c10 := heap_box hh1 0; have c11 := heap_box hh1 1
  have f10 := free_of_heap hh1 0; have f11 := free_of_heap hh1 1
  simp at c00 c01 c10 c11
  have HP0 := Lib.hid hp
  have HBEL := Lib.hid hbel.to
  have HSZ := Lib.hid hsz
  have HS := Lib.hid hs
  obtain ⟨A1, n1, c1, hf⟩ := hp.form
  have hn1 : n1 = L := by obtain ⟨A, c, e, -, -, -⟩ := hp; rw [hf] at e; cases e; exact hL
  subst hf; subst hn1
  clear hp hh0 hh1 hbel hsz hbx hs hss hL
  go_enter Tryz.func177, Tryz.ntmps177
  go_wp2_with fail
  · obtain ⟨F, hF, r0, r1, hd, hbf⟩ := ri_old false c10 c11 HP0.out HBEL.out (by omega)
    rw [hF]
    refine bodyPost_ret (v := .agg #[.slice A1 n1 c1, .bool false]) (by simp [results, Tryz.results177, go_sem, r0, r1]) rfl ?_
    rename_i hbe
    have hsf := HS.out
    rw [hbe] at hsf
    exact ⟨_, rfl, ⟨_, by rw [HSS.out, ← hsf]; rfl, by rw [Int.natAbs_neg]; exact hd⟩, hbf⟩
  · obtain ⟨F, hF, r0, r1, hd, hbf⟩ := ri_old (decide (0 < n1)) c10 c11 HP0.out HBEL.out (by omega)
    rw [hF]
    refine bodyPost_ret (v := .agg #[.slice A1 n1 c1, .bool (decide (0 < n1))]) (by simp [results, Tryz.results177, go_sem, r0, r1]) rfl ?_
    rename_i hbe
    have hsf := HS.out
    rw [Bool.eq_false_iff.mpr hbe] at hsf
    exact ⟨_, rfl, ⟨_, by rw [HSS.out, ← hsf]; rfl, by rw [Int.natAbs_neg]; exact hd⟩, hbf⟩

theorem sgn_nonneg {a : Int} (h : 0 ≤ a) : 0 ≤ sgn a := by
  unfold sgn; split
  · omega
  · split <;> omega
theorem sum_same {x y : Int} (h : decide (x < 0) = decide (y < 0)) : (x + y).natAbs = x.natAbs + y.natAbs ∧ (decide (x < 0) && decide (0 < x.natAbs + y.natAbs)) = decide (x + y < 0) := by
  have h' : x < 0 ↔ y < 0 := by simpa using h
  refine ⟨by omega, ?_⟩
  rw [Bool.eq_iff_iff]; simp; omega
theorem sum_left {x y : Int} (h : decide (x < 0) ≠ decide (y < 0)) (hle : y.natAbs ≤ x.natAbs) : (x + y).natAbs = x.natAbs - y.natAbs ∧ (decide (x < 0) && decide (0 < x.natAbs - y.natAbs)) = decide (x + y < 0) := by
  have h' : ¬ (x < 0 ↔ y < 0) := by simpa using h
  refine ⟨by omega, ?_⟩
  rw [Bool.eq_iff_iff]; simp; omega
theorem sum_right {x y : Int} (h : decide (x < 0) ≠ decide (y < 0)) (hle : x.natAbs < y.natAbs) : (x + y).natAbs = y.natAbs - x.natAbs ∧ decide (y < 0) = decide (x + y < 0) := by
  have h' : ¬ (x < 0 ↔ y < 0) := by simpa using h
  refine ⟨by omega, ?_⟩
  rw [Bool.eq_iff_iff]; simp; omega

set_option maxRecDepth 100000 in
set_option maxHeartbeats 4000000 in
theorem rsum_c (v1 v2 : Value) (x y : Int) (w : World) (h1 : Ri w v1 x) (h2 : Ri w v2 y) (hm : (dg 10 x.natAbs).length ≤ 1000000) (hn : (dg 10 y.natAbs).length ≤ 1000000) :
    Calls Tryz.prog 175 #[v1, v2] w (RiP (x + y) w) := by
  obtain ⟨p, rfl, hp⟩ := h1
  obtain ⟨q, rfl, hq⟩ := h2
  have HM := Lib.hid (And.intro hm hn)
  have SA := Lib.hid (@sum_same x y)
  have SL := Lib.hid (@sum_left x y)
  have SR := Lib.hid (@sum_right x y)
  obtain ⟨bx, hbx⟩ : ∃ b, decide (x < 0) = b := ⟨_, rfl⟩
  obtain ⟨by_, hby⟩ : ∃ b, decide (y < 0) = b := ⟨_, rfl⟩
  rw [hbx, hby] at SA SL SR
  rw [hbx, hby]
  obtain ⟨W, hW, hh0, hh1, hh2, hbel, hsz⟩ := boxes3h w #[p, .bool bx] #[q, .bool by_] #[.slice none 0 0, .bool false] 58 58 58
  have c00 := heap_box hh0 0; have c01 := heap_box hh0 1; have c10 := heap_box hh1 0; have c11 := heap_box hh1 1; have c20 := heap_box hh2 0; have c21 := heap_box hh2 1
  have f20 := free_of_heap hh2 0; have f21 := free_of_heap hh2 1
  simp at c00 c01 c10 c11 c20 c21
  have HP := Lib.hid (hp.below hbel.to)
  have HQ := Lib.hid (hq.below hbel.to)
  have HBEL := Lib.hid hbel.to
  have HSZ := Lib.hid hsz
  obtain ⟨A1, n1, c1, rfl⟩ := hp.form
  obtain ⟨A2, n2, c2, rfl⟩ := hq.form
  clear hp hq hh0 hh1 hh2 hbel hsz hm hn hbx hby
  by_cases hs : bx = by_
  · obtain ⟨hab, hsg⟩ := SA.out hs
    subst hs
    obtain ⟨s, hss⟩ : ∃ s, decide (x + y < 0) = s := ⟨_, rfl⟩
    rw [hss] at hsg
    rw [len_pos] at hsg
    obtain ⟨L, hL⟩ : ∃ L, (dg 10 (x.natAbs + y.natAbs)).length = L := ⟨_, rfl⟩
    rw [hL] at hsg
    have HAB := Lib.hid hab
    have HSG := Lib.hid hsg
    have HSS := Lib.hid hss
    have HL := Lib.hid hL
    have hbb : (bx == bx) = true := by cases bx <;> rfl
    clear hab hsg hss hL SA SL SR
    go_enter Tryz.func175, Tryz.ntmps175
    go_wp2_with (go_at_call 216; (with_reducible refine (natAdd_c _ _ x.natAbs y.natAbs _ HP.out HQ.out HM.out.1 HM.out.2).mono ?_); rintro e W2 ⟨u, rfl, hu, hfu, hbz⟩; have HU := Lib.hid hu; have HFU := Lib.hid hfu; obtain ⟨A, c, hv, -, -, -⟩ := hu; rw [HL.out] at hv; subst hv; have f20 := keep_free' hbz c20 f20; have f21 := keep_free' hbz c21 f21; have c00 := keep_cell hbz c00; have c01 := keep_cell hbz c01; have c10 := keep_cell hbz c10; have c11 := keep_cell hbz c11; have c20 := keep_cell hbz c20; have c21 := keep_cell hbz c21; have HB2 := Lib.hid (below_then' HBEL.out hbz); clear hbz hfu)
    · obtain ⟨F, hF, r0, r1, hd, hbf⟩ := ri_set (decide (0 < L)) c20 c21 HU.out (HFU.out.mono (by have := HSZ.out; omega))
      rw [hF]
      refine bodyPost_ret (v := .agg #[.slice A L c, .bool (decide (0 < L))]) (by simp [results, Tryz.results175, go_sem, r0, r1]) rfl ?_
      rename_i hbe; have hsf := HSG.out; rw [hbe, Bool.true_and] at hsf
      exact ⟨_, rfl, ⟨_, by rw [HSS.out, hsf], by rw [HAB.out]; exact hd⟩, hbf _ _ (by omega) HB2.out⟩
    · obtain ⟨F, hF, r0, r1, hd, hbf⟩ := ri_set (false) c20 c21 HU.out (HFU.out.mono (by have := HSZ.out; omega))
      rw [hF]
      refine bodyPost_ret (v := .agg #[.slice A L c, .bool (false)]) (by simp [results, Tryz.results175, go_sem, r0, r1]) rfl ?_
      rename_i hbe; have hsf := HSG.out; rw [Bool.eq_false_iff.mpr hbe, Bool.false_and] at hsf
      exact ⟨_, rfl, ⟨_, by rw [HSS.out, hsf], by rw [HAB.out]; exact hd⟩, hbf _ _ (by omega) HB2.out⟩
  · have hbb : (bx == by_) = false := by simpa using hs
    by_cases hle : y.natAbs ≤ x.natAbs
    · obtain ⟨hab, hsg⟩ := SL.out hs hle
      obtain ⟨s, hss⟩ : ∃ s, decide (x + y < 0) = s := ⟨_, rfl⟩
      rw [hss] at hsg
      rw [len_pos] at hsg
      obtain ⟨L, hL⟩ : ∃ L, (dg 10 (x.natAbs - y.natAbs)).length = L := ⟨_, rfl⟩
      rw [hL] at hsg
      obtain ⟨g, hsn⟩ : ∃ g, sgn ((x.natAbs : Int) - (y.natAbs : Int)) = g := ⟨_, rfl⟩
      have hg0 : 0 ≤ g := by rw [← hsn]; exact sgn_nonneg (by omega)
      have HSN := Lib.hid hsn
      have HAB := Lib.hid hab
      have HSG := Lib.hid hsg
      have HSS := Lib.hid hss
      have HL := Lib.hid hL
      have HLE := Lib.hid hle
      clear hab hsg hss hL hle hsn SA SL SR
      go_enter Tryz.func175, Tryz.ntmps175
      go_wp2_with (first
        | (go_at_call 183; (with_reducible refine (natCmp_c _ _ x.natAbs y.natAbs _ HP.out HQ.out HM.out.1 HM.out.2).mono ?_); rintro e W1 ⟨he, hbz⟩; rw [HSN.out] at he; subst he; have f20 := keep_free' hbz c20 f20; have f21 := keep_free' hbz c21 f21; have c00 := keep_cell hbz c00; have c01 := keep_cell hbz c01; have c10 := keep_cell hbz c10; have c11 := keep_cell hbz c11; have c20 := keep_cell hbz c20; have c21 := keep_cell hbz c21; have HP1 := Lib.hid (HP.out.below hbz); have HQ1 := Lib.hid (HQ.out.below hbz); have HS1 := Lib.hid hbz.size; have HB1 := Lib.hid (below_then' HBEL.out hbz); clear hbz)
        | (go_at_call 217; (with_reducible refine (natSub_c _ _ x.natAbs y.natAbs _ HP1.out HQ1.out HM.out.1 HLE.out).mono ?_); rintro e W2 ⟨u, rfl, hu, hfu, hbz⟩; have HU := Lib.hid hu; have HFU := Lib.hid hfu; obtain ⟨A, c, hv, -, -, -⟩ := hu; rw [HL.out] at hv; subst hv; have f20 := keep_free' hbz c20 f20; have f21 := keep_free' hbz c21 f21; have c00 := keep_cell hbz c00; have c01 := keep_cell hbz c01; have c10 := keep_cell hbz c10; have c11 := keep_cell hbz c11; have c20 := keep_cell hbz c20; have c21 := keep_cell hbz c21; have HB2 := Lib.hid (below_then' HB1.out hbz); clear hbz hfu))
      · obtain ⟨F, hF, r0, r1, hd, hbf⟩ := ri_set (decide (0 < L)) c20 c21 HU.out (HFU.out.mono (by have := HSZ.out; have := HS1.out; omega))
        rw [hF]
        refine bodyPost_ret (v := .agg #[.slice A L c, .bool (decide (0 < L))]) (by simp [results, Tryz.results175, go_sem, r0, r1]) rfl ?_
        rename_i hbe; have hsf := HSG.out; rw [hbe, Bool.true_and] at hsf
        exact ⟨_, rfl, ⟨_, by rw [HSS.out, hsf], by rw [HAB.out]; exact hd⟩, hbf _ _ (by omega) HB2.out⟩
      · obtain ⟨F, hF, r0, r1, hd, hbf⟩ := ri_set (false) c20 c21 HU.out (HFU.out.mono (by have := HSZ.out; have := HS1.out; omega))
        rw [hF]
        refine bodyPost_ret (v := .agg #[.slice A L c, .bool (false)]) (by simp [results, Tryz.results175, go_sem, r0, r1]) rfl ?_
        rename_i hbe; have hsf := HSG.out; rw [Bool.eq_false_iff.mpr hbe, Bool.false_and] at hsf
        exact ⟨_, rfl, ⟨_, by rw [HSS.out, hsf], by rw [HAB.out]; exact hd⟩, hbf _ _ (by omega) HB2.out⟩
    · obtain ⟨hab, hsg⟩ := SR.out hs (by omega)
      obtain ⟨L, hL⟩ : ∃ L, (dg 10 (y.natAbs - x.natAbs)).length = L := ⟨_, rfl⟩
      obtain ⟨g, hsn⟩ : ∃ g, sgn ((x.natAbs : Int) - (y.natAbs : Int)) = g := ⟨_, rfl⟩
      have hg0 : g < 0 := by rw [← hsn, sgn_lt (by omega)]; decide
      have HSN := Lib.hid hsn
      have HAB := Lib.hid hab
      have HSS := Lib.hid hsg
      have HL := Lib.hid hL
      have HLE := Lib.hid (Nat.le_of_lt (Nat.lt_of_not_le hle))
      clear hab hsg hL hle hsn SA SL SR
      go_enter Tryz.func175, Tryz.ntmps175
      go_wp2_with ((go_at_call 183; (with_reducible refine (natCmp_c _ _ x.natAbs y.natAbs _ HP.out HQ.out HM.out.1 HM.out.2).mono ?_); rintro e W1 ⟨he, hbz⟩; rw [HSN.out] at he; subst he; have f20 := keep_free' hbz c20 f20; have f21 := keep_free' hbz c21 f21; have c00 := keep_cell hbz c00; have c01 := keep_cell hbz c01; have c10 := keep_cell hbz c10; have c11 := keep_cell hbz c11; have c20 := keep_cell hbz c20; have c21 := keep_cell hbz c21; have HP1 := Lib.hid (HP.out.below hbz); have HQ1 := Lib.hid (HQ.out.below hbz); have HS1 := Lib.hid hbz.size; have HB1 := Lib.hid (below_then' HBEL.out hbz); clear hbz))
      have HPD : Hid (Dg 10 W1.drew (.slice A1 n1 c1) x.natAbs) := HP1.out.drew
      have HQD : Hid (Dg 10 W1.drew (.slice A2 n2 c2) y.natAbs) := HQ1.out.drew
      have d10 : W1.drew.cell? ⟨w.heap.size + 1, 0, none⟩ = some (.slice A2 n2 c2) := c10
      have d11 : W1.drew.cell? ⟨w.heap.size + 1, 1, none⟩ = some (.bool by_) := c11
      have d20 : W1.drew.cell? ⟨w.heap.size + 1 + 1, 0, none⟩ = some (.slice none 0 0) := c20
      have d21 : W1.drew.cell? ⟨w.heap.size + 1 + 1, 1, none⟩ = some (.bool false) := c21
      have e20 : W1.drew.frozen? ⟨w.heap.size + 1 + 1, 0, none⟩ = false := f20
      have e21 : W1.drew.frozen? ⟨w.heap.size + 1 + 1, 1, none⟩ = false := f21
      have HBD : Hid (Below w.heap.size w W1.drew) := HB1.out.drew
      have HSD : Hid (W1.drew.heap.size = W1.heap.size) := rfl
      go_region_with (go_at_call 217; (with_reducible refine (natSub_c _ _ y.natAbs x.natAbs _ HQD.out HPD.out HM.out.2 HLE.out).mono ?_); rintro e W2 ⟨u, rfl, hu, hfu, hbz⟩; have HU := Lib.hid hu; have HFU := Lib.hid hfu; obtain ⟨A, c, hv, -, -, -⟩ := hu; rw [HL.out] at hv; subst hv; have c20 := keep_cell hbz d20; have c21 := keep_cell hbz d21; have c11 := keep_cell hbz d11; have f20 := keep_free' hbz d20 e20; have f21 := keep_free' hbz d21 e21; have HB2 := Lib.hid (below_then' HBD.out hbz); clear hbz hfu d10 d11 d20 d21 e20 e21)
      all_goals
        obtain ⟨F, hF, r0, r1, hd, hbf⟩ := ri_set by_ c20 c21 HU.out (HFU.out.mono (by have := HSZ.out; have := HS1.out; have := HSD.out; omega))
        rw [hF]
        clear hF c20 c21 c11 f20 f21
        go_wp2_with fail
        refine bodyPost_ret (v := .agg #[.slice A L c, .bool by_]) (by simp [results, Tryz.results175, go_sem, r0, r1]) rfl ?_
        exact ⟨_, rfl, ⟨_, by rw [← HSS.out], by rw [HAB.out]; exact hd⟩, hbf _ _ (by omega) HB2.out⟩

end Go.Proofs.YtekbfommnmikbaaGreatDoor

namespace Go.Proofs.YtekbfommnmikbaaGreatDoor
set_option linter.unusedVariables false
set_option linter.unusedSimpArgs false
open Go.RowKit
attribute [local go_sem ↓] Go.wp_at_zero Go.wp_at_succ

/-- No whole number. -/
def NoI (v : Value) : Prop := ∀ kd z, v ≠ .int kd z
theorem noi_bool (b : Bool) : NoI (.bool b) := fun _ _ h => by cases h
theorem noi_slice (A : Option Addr) (n c : Nat) : NoI (.slice A n c) := fun _ _ h => by cases h
theorem box_put {w : World} {g : Nat} {cs : Array Value} {t : TypeId} {fz : Nat × Nat} (h : w.heap[g]? = some (.cells cs t fz)) (i : Nat) (v : Value) :
    (w.setCell ⟨g, i, none⟩ v).heap[g]? = some (.cells (cs.setIfInBounds i v) t fz) := by
  obtain ⟨hlt, h'⟩ := Array.getElem?_eq_some_iff.1 h
  show (w.heap.modify g _)[g]? = _
  rw [Array.getElem?_eq_getElem (by simpa using hlt), Array.getElem_modify_self, h']
  rfl
/-- Digits lie in no box of other things: a store into it leaves them. -/
theorem dg_put {w : World} {v : Value} {n g : Nat} {cs : Array Value} {t : TypeId} {fz : Nat × Nat} (h : Dg 10 w v n) (hbox : w.heap[g]? = some (.cells cs t fz)) (hcs : ∀ (i : Nat) x, cs[i]? = some x → NoI x) (i : Nat) (u : Value) :
    Dg 10 (w.setCell ⟨g, i, none⟩ u) v n := by
  obtain ⟨A, c, rfl, h1, h2, hr⟩ := h
  by_cases h0 : dg 10 n = []
  · refine ⟨A, c, rfl, h1, h2, ?_⟩
    rw [h0]; exact Row.nil
  · refine Dg.same ⟨A, c, rfl, h1, h2, hr⟩ fun k hk => Below.heap_setCell _ _ _ _ fun e => ?_
    have e' : k = g := e
    subst e'
    have hl : 0 < (dg 10 n).length := List.length_pos_iff.2 h0
    obtain ⟨a, rfl, hc⟩ := hr 0 hl
    rw [addr_zero] at hc
    have hb : a.block = k := by simpa [Value.ownBlock] using hk
    unfold World.cell? at hc
    rw [hb, hbox] at hc
    simp only [] at hc
    split at hc
    · cases hc
    · exact hcs _ _ hc _ _ rfl
theorem two_noi {x0 x1 : Value} (h0 : NoI x0) (h1 : NoI x1) : ∀ (i : Nat) x, (#[x0, x1] : Array Value)[i]? = some x → NoI x := by
  intro i x hi
  match i with
  | 0 => simp at hi; subst hi; exact h0
  | 1 => simp at hi; subst hi; exact h1
  | i + 2 => simp at hi
/-- A number of the reference's stored into a box. -/
theorem ri_put {w : World} {g n c n' c' : Nat} {A A' : Option Addr} {b b' : Bool} {t : TypeId} {z : Int} (h : Ri w (.agg #[.slice A n c, .bool b]) z) (hb : w.heap[g]? = some (.cells #[.slice A' n' c', .bool b'] t (0, 0))) :
    ∃ F, (w.setCell ⟨g, 0, none⟩ (.slice A n c)).setCell ⟨g, 1, none⟩ (.bool b) = F ∧ F.cell? ⟨g, 0, none⟩ = some (.slice A n c) ∧ F.cell? ⟨g, 1, none⟩ = some (.bool b) ∧ Ri F (.agg #[.slice A n c, .bool b]) z ∧ (∀ k w0, k ≤ g → Below k w0 w → Below k w0 F) := by
  have b1 := box_put hb 0 (.slice A n c)
  have e1 : (#[.slice A' n' c', .bool b'] : Array Value).setIfInBounds 0 (.slice A n c) = #[.slice A n c, .bool b'] := by simp
  rw [e1] at b1
  have b2 := box_put b1 1 (.bool b)
  have e2 : (#[.slice A n c, .bool b'] : Array Value).setIfInBounds 1 (.bool b) = #[.slice A n c, .bool b] := by simp
  rw [e2] at b2
  refine ⟨_, rfl, cell_of_heap b2 0, cell_of_heap b2 1, ?_, fun k w0 hk hb => (hb.setCell hk _).setCell hk _⟩
  obtain ⟨p, e, hd⟩ := h
  exact ⟨p, e, dg_put (dg_put hd hb (two_noi (noi_slice _ _ _) (noi_bool _)) _ _) b1 (two_noi (noi_slice _ _ _) (noi_bool _)) _ _⟩
theorem ri_alloc {w : World} {n c : Nat} {A : Option Addr} {b : Bool} (t : TypeId) {z : Int} (h : Ri w (.agg #[.slice A n c, .bool b]) z) :
    ∃ F, w.alloc (.cells #[.slice A n c, .bool b] t) = F ∧ F.cell? ⟨w.heap.size, 0, none⟩ = some (.slice A n c) ∧ F.cell? ⟨w.heap.size, 1, none⟩ = some (.bool b) ∧ Ri F (.agg #[.slice A n c, .bool b]) z ∧ (∀ k w0, k ≤ w.heap.size → Below k w0 w → Below k w0 F) :=
  ⟨_, rfl, new_cell _ _ _ 0, new_cell _ _ _ 1, h.below ((Below.refl _ _).alloc (Nat.le_refl _) _), fun k w0 hk hb => hb.alloc hk _⟩
end Go.Proofs.YtekbfommnmikbaaGreatDoor

namespace Go.Proofs.YtekbfommnmikbaaGreatDoor
set_option linter.unusedVariables false
set_option linter.unusedSimpArgs false
open Go.RowKit
attribute [local go_sem ↓] Go.wp_at_zero Go.wp_at_succ

theorem nbh1 (w : World) (o : Obj) : (w.alloc o).drew.heap[w.heap.size]? = some o := heap_alloc_new w o

theorem box0 {w : World} {g : Nat} {a b : Value} {t : TypeId} (h : w.heap[g]? = some (.cells #[a, b] t (0, 0))) : w.cell? ⟨g, 0, none⟩ = some a := cell_of_heap h 0
theorem box1 {w : World} {g : Nat} {a b : Value} {t : TypeId} (h : w.heap[g]? = some (.cells #[a, b] t (0, 0))) : w.cell? ⟨g, 1, none⟩ = some b := cell_of_heap h 1
theorem ri_parts {w : World} {A : Option Addr} {n c : Nat} {b : Bool} {z : Int} (h : Ri w (.agg #[.slice A n c, .bool b]) z) : n = (dg 10 z.natAbs).length ∧ b = decide (z < 0) := by
  obtain ⟨p, e, A', c', rfl, -⟩ := h
  simp at e
  exact ⟨e.1.2.1, e.2⟩
theorem len_ne {z : Int} (h : z ≠ 0) : (((dg 10 z.natAbs).length : Int) == 0) = false := by
  have h1 := dg_eq_nil (b := 10) (n := z.natAbs) (by decide)
  rw [← List.length_eq_zero_iff] at h1
  rw [beq_eq_false_iff_ne]; omega

set_option maxRecDepth 100000 in
set_option maxHeartbeats 4000000 in
theorem rorder_c (v1 v2 : Value) (x y : Int) (w : World) (h1 : Ri w v1 x) (h2 : Ri w v2 y) (hm : (dg 10 x.natAbs).length ≤ 1000000) (hn : (dg 10 y.natAbs).length ≤ 1000000) :
    Calls Tryz.prog 117 #[v1, v2] w fun e w' => e = .returned (.int .i64 (sgn (x - y))) ∧ Below w.heap.size w w' := by
  have HM := Lib.hid (And.intro hm (show (dg 10 (-y).natAbs).length ≤ 1000000 by rw [Int.natAbs_neg]; exact hn))
  obtain ⟨A1, n1, c1, bx, rfl⟩ := h1.form
  obtain ⟨A2, n2, c2, by_, rfl⟩ := h2.form
  obtain ⟨W, hW, hh0, hh1, hbel, hsz⟩ := boxes2h w #[.slice A1 n1 c1, .bool bx] #[.slice A2 n2 c2, .bool by_] 58 58
  have c00 := heap_box hh0 0; have c01 := heap_box hh0 1; have c10 := heap_box hh1 0; have c11 := heap_box hh1 1
  simp at c00 c01 c10 c11
  have HX : Hid (∀ w', Below W.heap.size W w' → Ri w' (.agg #[.slice A1 n1 c1, .bool bx]) x) := fun w' hb => (h1.below hbel.to).below hb
  have HY : Hid (∀ w', Below W.heap.size W w' → Ri w' (.agg #[.slice A2 n2 c2, .bool by_]) y) := fun w' hb => (h2.below hbel.to).below hb
  have HBEL := Lib.hid hbel.to
  have HSZ := Lib.hid hsz
  have HW := Lib.hid hW
  clear h1 h2 hm hn hh0 hh1 hbel hsz hW
  go_enter Tryz.func117, Tryz.ntmps117
  go_upto_region 1 with fail
  try rw [HW.out]
  go_cut [5] from 2 to 6 (fun p5 wx => ∃ (g n c : Nat) (A : Option Addr) (b : Bool), p5 = .pointer (some ⟨g, 0, none⟩) ∧ wx.cell? ⟨g, 0, none⟩ = some (.slice A n c) ∧ wx.cell? ⟨g, 1, none⟩ = some (.bool b) ∧ Hid (Ri wx (.agg #[.slice A n c, .bool b]) (x - y)) ∧ Hid (Below w.heap.size w wx))
  case first =>
    have a00 : ∀ o, (W.alloc o).cell? ⟨w.heap.size, 0, none⟩ = some (.slice A1 n1 c1) := fun o => keep_cell ((Below.refl _ _).alloc (Nat.le_refl _) o) c00
    have a01 : ∀ o, (W.alloc o).cell? ⟨w.heap.size, 1, none⟩ = some (.bool bx) := fun o => keep_cell ((Below.refl _ _).alloc (Nat.le_refl _) o) c01
    have a10 : ∀ o, (W.alloc o).cell? ⟨w.heap.size + 1, 0, none⟩ = some (.slice A2 n2 c2) := fun o => keep_cell ((Below.refl _ _).alloc (Nat.le_refl _) o) c10
    have a11 : ∀ o, (W.alloc o).cell? ⟨w.heap.size + 1, 1, none⟩ = some (.bool by_) := fun o => keep_cell ((Below.refl _ _).alloc (Nat.le_refl _) o) c11
    go_region_with (first
      | (go_at_call 177; go_loud (refine (rminus_c _ y _ (HY.out _ ?_)).mono ?_; (first | (with_reducible exact (Below.refl _ _).drew) | (with_reducible exact ((Below.refl _ _).alloc (Nat.le_refl _) _).drew)); rintro e W2 ⟨u, rfl, hu, hbz⟩; obtain ⟨A3, n3, c3, b3, rfl⟩ := hu.form; have HU := Lib.hid hu; (first | (with_reducible (have hbx := heap_below (nbh1 W (.cells #[.slice none 0 0, .bool false] 58)) hbz; have e0 := box0 hbx; have e1 := box1 hbx; have z0 := free_of_heap hbx 0; have z1 := free_of_heap hbx 1)) | skip); have HB2 : Hid (Below W.heap.size W W2) := (by first | (with_reducible exact Lib.hid (below_then' (Below.refl _ _).drew hbz)) | (with_reducible exact Lib.hid (below_then' ((Below.refl _ _).alloc (Nat.le_refl _) _).drew hbz))); have a00 : ∀ o, (W2.alloc o).cell? ⟨w.heap.size, 0, none⟩ = some (.slice A1 n1 c1) := fun o => keep_cell (HB2.out.alloc HB2.out.size o) c00; have a01 : ∀ o, (W2.alloc o).cell? ⟨w.heap.size, 1, none⟩ = some (.bool bx) := fun o => keep_cell (HB2.out.alloc HB2.out.size o) c01; have c00 := keep_cell HB2.out c00; have c01 := keep_cell HB2.out c01; clear hbz hu))
      | (go_at_call 175; refine (rsum_c _ _ x (-y) _ (HX.out _ ?_) (HU.out.below ?_) HM.out.1 HM.out.2).mono ?_; (first | (with_reducible exact HB2.out) | (with_reducible exact HB2.out.alloc HB2.out.size _)); (first | (with_reducible exact Below.refl _ _) | (with_reducible exact (Below.refl _ _).alloc (Nat.le_refl _) _)); rintro e W3 ⟨u, rfl, hu, hbz⟩; obtain ⟨A4, n4, c4, b4, rfl⟩ := hu.form; have HV := Lib.hid hu; (first | (with_reducible (have hbx := heap_below hbx hbz; have e0 := box0 hbx; have e1 := box1 hbx; have z0 := free_of_heap hbx 0; have z1 := free_of_heap hbx 1)) | (with_reducible (have hbx := heap_below (heap_alloc_new W2 (.cells #[.slice none 0 0, .bool false] 58)) hbz; have e0 := box0 hbx; have e1 := box1 hbx; have z0 := free_of_heap hbx 0; have z1 := free_of_heap hbx 1)) | skip); have HB3 : Hid (Below W.heap.size W W3) := (by first | (with_reducible exact Lib.hid (below_then' HB2.out hbz)) | (with_reducible exact Lib.hid (below_then' (HB2.out.alloc HB2.out.size _) hbz))); clear hbz hu))
    all_goals
      go_wp2_with fail
      (first
      | (obtain ⟨F, hF, r0, r1, hr, hbf⟩ := ri_put HV.out hbx; rw [hF])
      | (obtain ⟨F, hF, r0, r1, hr, hbf⟩ := ri_alloc 58 HV.out; rw [hF]))
      go_meet
      have hs2 := HB2.out.size
      have hs3 := HB3.out.size
      rw [← Int.sub_eq_add_neg] at hr
      exact ⟨_, _, _, _, _, rfl, r0, r1, hr, hbf _ _ (by have := HSZ.out; omega) (below_then' HBEL.out HB3.out)⟩
  case rest =>
    obtain ⟨g, n, c, A, b, rfl, e0, e1, HR, HB⟩ := hcut
    obtain ⟨hn, hb⟩ := ri_parts HR.out
    obtain ⟨s, hs⟩ : ∃ s, sgn (x - y) = s := ⟨_, rfl⟩
    have HS := Lib.hid hs
    rcases Int.lt_trichotomy (x - y) 0 with h | h | h
    · have hn0 : ((n : Int) == 0) = false := by rw [hn]; exact len_ne (by omega)
      obtain rfl : b = true := by rw [hb]; simpa using h
      have hz : s = -1 := by rw [← hs]; exact sgn_lt h
      subst hz
      clear hs hn hb h
      go_wp2_with fail
      go_ret
      exact ⟨by rw [HS.out]; rfl, HB.out⟩
    · have hn0 : n = 0 := by rw [hn, h, Int.natAbs_zero, dg_zero]; rfl
      have hz : s = 0 := by rw [← hs, h]; rfl
      subst hz; subst hn0
      clear hs hn hb h
      go_wp2_with fail
      go_ret
      exact ⟨by rw [HS.out]; rfl, HB.out⟩
    · have hn0 : ((n : Int) == 0) = false := by rw [hn]; exact len_ne (by omega)
      obtain rfl : b = false := by rw [hb]; simp; omega
      have hz : s = 1 := by rw [← hs]; exact sgn_gt h
      subst hz
      clear hs hn hb h
      go_wp2_with fail
      go_ret
      exact ⟨by rw [HS.out]; rfl, HB.out⟩
end Go.Proofs.YtekbfommnmikbaaGreatDoor

namespace Go.Proofs.YtekbfommnmikbaaGreatDoor
set_option linter.unusedVariables false
set_option linter.unusedSimpArgs false
open Go.RowKit Go.Shelf

theorem u8_ne45 {b : UInt8} (h : b ≠ 45) : ((b.toNat : Int) == 45) = false := by
  rw [beq_eq_false_iff_ne]
  intro e
  have e' : b.toNat = 45 := by omega
  exact h (UInt8.toNat_inj.1 (by rw [e']; rfl))
end Go.Proofs.YtekbfommnmikbaaGreatDoor

namespace Go.Proofs.YtekbfommnmikbaaGreatDoor
set_option linter.unusedVariables false
set_option linter.unusedSimpArgs false
open Go.RowKit Go.Shelf

/-- A digit's value. -/
def dval (b : UInt8) : Int := (b.toNat : Int) - 48
theorem val_rev : ∀ {d : List UInt8}, (∀ b ∈ d, isDig b) → val 10 (d.map dval).reverse = (decVal d : Int)
  | [], _ => rfl
  | b :: t, h => by
    have hb := h b (List.mem_cons_self ..)
    have h1 := hb.1
    have e : decVal [b] = b.toNat - 48 := by simp [decVal]
    rw [List.map_cons, List.reverse_cons, val_snoc, val_rev (fun c hc => h c (List.mem_cons_of_mem _ hc)), show b :: t = [b] ++ t from rfl, decVal_append, e]
    simp only [List.length_reverse, List.length_map, dval]
    rw [Int.natCast_add, Int.natCast_mul, Int.natCast_pow, Int.natCast_sub h1, Int.mul_comm, Int.add_comm]
    rfl
theorem inR_rev {d : List UInt8} (h : ∀ b ∈ d, isDig b) : InR 10 (d.map dval).reverse := by
  intro x hx
  rw [List.mem_reverse, List.mem_map] at hx
  obtain ⟨b, hb, rfl⟩ := hx
  have h1 := (h b hb).1
  have h2 := (h b hb).2
  unfold dval
  constructor <;> omega
theorem at_list (S : ByteArray) (a : UInt8) (t : List UInt8) (h : S.data.toList = a :: t) : ∃ h0 : 0 < S.size, S[0] = a := by
  have hl : 0 < S.data.toList.length := by rw [h]; simp
  refine ⟨by rw [Array.length_toList] at hl; exact hl, ?_⟩
  have : S.data.toList[0]'hl = a := by simp [h]
  rw [← this]; rfl
theorem text_neg {S : ByteArray} {z : Int} (h : NumL S.data.toList z) (hz : z < 0) : (∃ h0 : 0 < S.size, S[0] = 45) ∧ (S.extract 1 S.size).data.toList = Lib.decDigits z.natAbs := by
  have e : S.data.toList = 45 :: Lib.decDigits z.natAbs := by rw [h.1, Lib.itoa, if_pos hz]
  refine ⟨at_list _ _ _ e, ?_⟩
  rw [ext_list, List.take_of_length_le (by rw [Array.length_toList]; exact Nat.le_refl _), e]
  rfl
theorem text_pos {S : ByteArray} {z : Int} (h : NumL S.data.toList z) (hz : ¬ z < 0) : (∃ h0 : 0 < S.size, S[0] ≠ 45) ∧ S.data.toList = Lib.decDigits z.natAbs := by
  have e : S.data.toList = Lib.decDigits z.natAbs := by rw [h.1, Lib.itoa, if_neg hz, show z.toNat = z.natAbs by omega]
  refine ⟨?_, e⟩
  cases hl : Lib.decDigits z.natAbs with
  | nil => exact absurd hl (decDigits_ne _)
  | cons a t =>
    obtain ⟨h0, ha⟩ := at_list _ _ _ (e.trans hl)
    refine ⟨h0, ?_⟩
    rw [ha]
    intro e
    have := (decDigits_dig z.natAbs a (by rw [hl]; simp)).1
    rw [e] at this
    simp at this
/-- The digits of D. -/
structure DecT (D : ByteArray) (n : Nat) : Prop where
  l_ : D.data.toList = Lib.decDigits n
  le : D.size ≤ 200
  dg : ∀ j (h : j < D.size), isDig D[j]
theorem decT {D : ByteArray} {n : Nat} (h : D.data.toList = Lib.decDigits n) (hn : n < 10 ^ 200) : DecT D n := by
  refine ⟨h, ?_, fun j hj => ?_⟩
  · have := (len200 n).2 hn
    rw [← h, Array.length_toList] at this
    exact this
  · exact decDigits_dig n _ (by rw [← h]; exact Array.getElem_mem_toList (xs := D.data) (i := j) hj)
/-- The digits from place g on, the last one first. -/
def revFrom (D : ByteArray) (g : Nat) : List Int := ((D.data.toList.drop g).map dval).reverse
theorem revFrom_end (D : ByteArray) : revFrom D D.size = [] := by
  unfold revFrom
  rw [List.drop_eq_nil_of_le (by rw [Array.length_toList]; exact Nat.le_refl _)]; rfl
theorem revFrom_step (D : ByteArray) (g : Nat) (h : g < D.size) : revFrom D g = revFrom D (g + 1) ++ [(D[g].toNat : Int) - 48] := by
  unfold revFrom
  rw [List.drop_eq_getElem_cons (by rw [Array.length_toList]; exact h), List.map_cons, List.reverse_cons]
  rfl
theorem revFrom_zero {D : ByteArray} {n : Nat} (h : DecT D n) : InR 10 (revFrom D 0) ∧ val 10 (revFrom D 0) = (n : Int) := by
  have hd : ∀ b ∈ D.data.toList, isDig b := by rw [h.l_]; exact decDigits_dig n
  refine ⟨inR_rev hd, ?_⟩
  unfold revFrom
  rw [List.drop_zero, val_rev hd, h.l_, decVal_decDigits]
theorem grown_put {w w1 : World} {v : Value} {B : Nat} {o : Obj} (hg : w.grownBy w1 v.ownBlock) (hb : w.heap[B]? = some o) (hv : v.ownBlock ≠ some B) : w1.heap[B]? = some o := by
  rw [hg.block B (Array.getElem?_eq_some_iff.1 hb).1 (Ne.symm hv)]; exact hb
theorem own_ne {w : World} {base : Nat} {e : TypeId} {size : Nat} {v : Value} {n : Nat} {xs : List Value} (h : w.ownsRow base e size v n xs) {B : Nat} (hB : B < base) : v.ownBlock ≠ some B := fun e => by
  have := (h.lt _ e).1
  omega
end Go.Proofs.YtekbfommnmikbaaGreatDoor
