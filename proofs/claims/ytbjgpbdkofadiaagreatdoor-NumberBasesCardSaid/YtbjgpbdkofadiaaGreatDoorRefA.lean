/- The reference's natural numbers: zeros cut off, digits, sums, differences, comparisons. -/
import Derived.Test.YtbjgpbdkofadiaaGreatDoorM1
namespace Go.Proofs.YtbjgpbdkofadiaaGreatDoor
set_option linter.unusedVariables false
set_option linter.unusedSimpArgs false
open Go.RowKit

set_option maxHeartbeats 1000000 in
theorem trim_c (A : Option Addr) (c : Nat) (xs : List Int) (w : World) (hr : Row .i64 w A xs) (hc : xs.length ≤ c) (hm : c ≤ 9223372036854775807) :
    Calls Tryz.prog 61 #[.slice A xs.length c] w (CutP A c xs w) := by
  have HR := Lib.hid hr
  clear hr
  go_enter Tryz.func61, Tryz.ntmps61
  go_wp2
  go_loopg [3] xs.length (fun k n wr => n = .int .i64 k ∧ k ≤ xs.length ∧ Hid (∀ j, k ≤ j → xs[j]?.getD 0 = 0) ∧ wr = w)
  case atStart => exact ⟨rfl, Nat.le_refl _, fun j hj => by rw [List.getElem?_eq_none hj]; rfl, rfl⟩
  case round =>
    obtain ⟨rfl, hk, HZ, rfl⟩ := hrel
    by_cases h0 : gk = 0
    · subst h0
      go_wp2
      go_ret
      exact ⟨rfl, 0, Nat.zero_le _, rfl, HZ.out, .inl rfl⟩
    · obtain ⟨k, rfl⟩ : ∃ k, gk = k + 1 := ⟨gk - 1, by omega⟩
      clear h0
      obtain ⟨a, rfl, hcell⟩ := HR.out k (by omega)
      by_cases hz : xs[k]?.getD 0 = 0
      · rw [hz] at hcell
        have HZ' : Hid (xs[k]?.getD 0 = 0) := hz
        clear hz
        go_wp2
        go_roundg k
        case measure => omega
        case rel =>
          refine ⟨by simp, by omega, fun j hj => ?_, rfl⟩
          by_cases e : j = k
          · subst e; exact HZ'.out
          · exact HZ.out j (by omega)
      · have HZ' : Hid (xs[k]?.getD 0 ≠ 0) := hz
        generalize hx : xs[k]?.getD 0 = x at hcell hz
        have hb : (x == 0) = false := by simpa using hz
        clear hx hz
        go_wp2
        go_ret
        exact ⟨rfl, k + 1, hk, rfl, HZ.out, .inr (by simpa using HZ'.out)⟩

set_option maxHeartbeats 400000 in
theorem digit_c (A : Option Addr) (c : Nat) (xs : List Int) (i : Nat) (w : World) (hr : Row .i64 w A xs) :
    Calls Tryz.prog 122 #[.slice A xs.length c, .int .i64 i] w fun e w' => e = .returned (.int .i64 (xs[i]?.getD 0)) ∧ w = w' := by
  by_cases h : i < xs.length
  · obtain ⟨a, rfl, hc⟩ := hr i h
    clear hr
    go_enter Tryz.func122, Tryz.ntmps122
    go_wp2
    go_ret
    exact ⟨by simp [h], rfl⟩
  · clear hr
    go_enter Tryz.func122, Tryz.ntmps122
    go_wp2
    go_ret
    exact ⟨by rw [List.getElem?_eq_none (by omega)]; rfl, rfl⟩
theorem digit_x (A : Option Addr) (c : Nat) (xs : List Int) (i : Nat) (x : Int) (w : World) (hr : Row .i64 w A xs) (hx : xs[i]?.getD 0 = x) :
    Calls Tryz.prog 122 #[.slice A xs.length c, .int .i64 i] w fun e w' => e = .returned (.int .i64 x) ∧ w = w' := by
  subst hx; exact digit_c A c xs i w hr
theorem digit_q (A : Option Addr) (c : Nat) (xs : List Int) (i : Nat) (x : Int) (w : World) (n : Nat) (hr : Row .i64 w A xs) (hx : xs[i]?.getD 0 = x) :
    Calls Tryz.prog 122 #[.slice A xs.length c, .int .i64 i] (w.drewN n) fun e w' => e = .returned (.int .i64 x) ∧ ∃ m, w' = w.drewN m :=
  (digit_x A c xs i x (w.drewN n) (hr.below (below_drewN (Below.refl _ _) n)) hx).mono fun _ _ ⟨he, hw⟩ => ⟨he, n, hw.symm⟩

attribute [local go_sem] max2_int min2_int max_two min_two
set_option maxHeartbeats 1000000 in
theorem natAdd_c (v1 v2 : Value) (m n : Nat) (w : World) (h1 : Dg 10 w v1 m) (h2 : Dg 10 w v2 n) (hm : (dg 10 m).length ≤ 1000000) (hn : (dg 10 n).length ≤ 1000000) :
    Calls Tryz.prog 90 #[v1, v2] w (DgP 10 (m + n) w) := by
  obtain ⟨A1, c1, rfl, hc1, _, hr1⟩ := h1
  obtain ⟨A2, c2, rfl, hc2, _, hr2⟩ := h2
  have HR1 := Lib.hid hr1
  have HR2 := Lib.hid hr2
  have I1 := Lib.hid (dg_inR (b := 10) (by decide) m)
  have I2 := Lib.hid (dg_inR (b := 10) (by decide) n)
  have V1 := Lib.hid (val_dg (b := 10) (by decide) m)
  have V2 := Lib.hid (val_dg (b := 10) (by decide) n)
  clear hr1 hr2
  generalize dg 10 m = p at *
  generalize dg 10 n = q at *
  obtain ⟨mx, hmx⟩ : ∃ mx : Nat, (if (p.length : Int) < (q.length : Int) then (q.length : Int) else (p.length : Int)) = (mx : Int) := ⟨max p.length q.length, by split <;> omega⟩
  have hmx' : (if p.length < q.length then (q.length : Int) else (p.length : Int)) = (mx : Int) := by
    rw [← hmx]; by_cases h : p.length < q.length
    · rw [if_pos h, if_pos (by omega)]
    · rw [if_neg h, if_neg (by omega)]
  have hmx1 : p.length ≤ mx := by split at hmx <;> omega
  have hmx2 : q.length ≤ mx := by split at hmx <;> omega
  have hmx3 : mx ≤ 1000000 := by split at hmx <;> omega
  go_enter Tryz.func90, Tryz.ntmps90
  go_wp2_with fail
  go_loopg [5, 6, 7] (mx + 1) (fun g v c i wr => ∃ (k : Nat) (cc : Int) (l : List Int), i = .int .i64 k ∧ c = .int .i64 cc ∧ 0 ≤ cc ∧ cc ≤ 1 ∧ k + g = mx + 1 ∧ wr.ownsRow w.heap.size 3 1 v k (l.map (Value.int .i64)) ∧ Hid (l.length = k ∧ InR 10 l ∧ val 10 l + (10 : Int) ^ k * cc = val 10 (p.take k) + val 10 (q.take k)) ∧ Below w.heap.size w wr)
  case atStart => exact ⟨0, 0, [], rfl, rfl, by omega, by omega, by omega, World.ownsRow_nil _ _ _ _, ⟨rfl, InR.nil _, by simp [val]⟩, Below.refl _ _⟩
  case round =>
    obtain ⟨k, cc, l, rfl, rfl, hc0, hc1', hg, hown, HL, hB⟩ := hrel
    have HP := Lib.hid (HR1.out.below hB)
    have HQ := Lib.hid (HR2.out.below hB)
    have HB := Lib.hid hB
    have hsz := hB.size
    clear hB
    by_cases hlt : k < mx + 1
    · obtain ⟨g, rfl⟩ : ∃ g, gk = g + 1 := ⟨gk - 1, by omega⟩
      have b1 := I1.out.at_ (by decide) k
      have b2 := I2.out.at_ (by decide) k
      rw [List.getD_eq_getElem?_getD] at b1 b2
      obtain ⟨x, hx⟩ : ∃ x, p[k]?.getD 0 = x := ⟨_, rfl⟩
      obtain ⟨y, hy⟩ : ∃ y, q[k]?.getD 0 = y := ⟨_, rfl⟩
      rw [hx] at b1
      rw [hy] at b2
      obtain ⟨b10, b11⟩ := b1
      obtain ⟨b20, b21⟩ := b2
      have CP := Lib.hid (digit_x A1 c1 p k x wr HP.out hx)
      have CQ := Lib.hid (digit_x A2 c2 q k y wr HQ.out hy)
      have HX := Lib.hid hx
      have HY := Lib.hid hy
      clear hx hy
      have hkb : k ≤ 1000001 := by omega
      have hkm : decide ((k : Int) ≤ (mx : Int)) = true := decide_eq_true (by omega)
      have hkm2 : decide (k ≤ mx) = true := decide_eq_true (by omega)
      have HG := Lib.hid hg
      clear hg
      go_wp2_with (first
        | (go_at_call 122; (with_reducible refine (CP.out).mono ?_); rintro e w' ⟨rfl, rfl⟩)
        | (go_at_call 122; (with_reducible refine (CQ.out).mono ?_); rintro e w' ⟨rfl, rfl⟩)
        | (at_builtin; obtain ⟨i0, hi, hz0, hz1, hz2⟩ := info_parts info_int; refine wpList_append_own _ rfl _ _ 30 rfl w.heap.size 3 i0 (.int .i64 0) 1 8 Tryz.underlying30 hi hz0 hz1 hz2 rfl (by decide) _ _ _ rfl (hown.alloc _) ⟨wr.heap.size, 0, none⟩ 1 1 [.int .i64 ((x + y + cc) % 10)] rfl rfl (cell_one_new _ _ _) (by simp [Value.oneCell']) (by unfold maxLen; omega) (by omega) (by simp; omega) ?_; intro v' w1 hown1 hgrow1 _; clear hi hz0 hz1 hz2))
      have hd0 : 0 ≤ (x + y + cc) / 10 := by omega
      have hd1 : (x + y + cc) / 10 ≤ 1 := by omega
      go_roundg g
      case measure => omega
      case rel =>
        obtain ⟨hl, hi, hv⟩ := HL.out
        refine ⟨k + 1, _, l ++ [(x + y + cc) % 10], rfl, rfl, hd0, hd1, by have := HG.out; omega, by simpa using hown1, ⟨by simp [hl], hi.snoc (by omega) (by omega), sum_step (b := 10) (by decide) hl hv HX.out HY.out⟩, ?_⟩
        exact (HB.out.alloc hsz _).grown hgrow1 (by simp; omega) (own_from hown)
    · obtain rfl : gk = 0 := by omega
      obtain ⟨hl, hi, hv⟩ := HL.out
      obtain ⟨A, c, hve, hlc, hcm, hrow, hln⟩ := own_row hown
      have hfrom := own_from hown
      have hval := Lib.hid (sum_end (b := 10) (by decide) I1.out I2.out (by omega) (by omega) hl hi hv hc0 V1.out V2.out)
      have HROW := Lib.hid hrow
      have HIN := Lib.hid hi
      have HF := Lib.hid hfrom
      clear hi hv hrow hfrom hown
      subst hve
      have hcm' : c ≤ 9223372036854775807 := by unfold maxLen at hcm; omega
      have hkm : decide ((k : Int) ≤ (mx : Int)) = false := decide_eq_false (by omega)
      have hkm2 : decide (k ≤ mx) = false := decide_eq_false (by omega)
      have hlen : k = l.length := hl.symm
      subst hlen
      go_wp2_with (go_at_call 61; refine (trim_c A c l wr HROW.out hlc hcm').mono ?_; intro e w' hcut; obtain ⟨rfl, v, rfl, hdg, hblk⟩ := cut_dg (b := 10) (by decide) HROW.out hlc hcm' HIN.out hval.out hcut)
      go_ret
      exact ⟨v, rfl, hdg, fun g hg => by obtain ⟨a, rfl, rfl⟩ := hblk g hg; exact HF.out _ rfl, HB.out⟩

/-- One place of a difference, laid behind the others. -/
theorem diff_snoc {b : Nat} {p q l : List Int} {k : Nat} {c x y : Int} {d r : Int} (hl : l.length = k) (hv : val b l - (b : Int) ^ k * c = val b (p.take k) - val b (q.take k)) (hx : p[k]?.getD 0 = x) (hy : q[k]?.getD 0 = y)
    (hd : x - y - c = r - (b : Int) * d) : val b (l ++ [r]) - (b : Int) ^ (k + 1) * d = val b (p.take (k + 1)) - val b (q.take (k + 1)) := by
  rw [val_snoc, val_take_succ, val_take_succ, hl, List.getD_eq_getElem?_getD, List.getD_eq_getElem?_getD, hx, hy, Int.pow_succ]
  generalize (b : Int) ^ k = B at *
  have : B * (x - y - c) = B * (r - (b : Int) * d) := by rw [hd]
  grind

set_option maxRecDepth 100000 in
set_option maxHeartbeats 2000000 in
theorem natSub_c (v1 v2 : Value) (m n : Nat) (w : World) (h1 : Dg 10 w v1 m) (h2 : Dg 10 w v2 n) (hm : (dg 10 m).length ≤ 1000000) (hle : n ≤ m) :
    Calls Tryz.prog 99 #[v1, v2] w (DgP 10 (m - n) w) := by
  obtain ⟨A1, c1, rfl, hc1, _, hr1⟩ := h1
  obtain ⟨A2, c2, rfl, hc2, _, hr2⟩ := h2
  have HR1 := Lib.hid hr1
  have HR2 := Lib.hid hr2
  have I1 := Lib.hid (dg_inR (b := 10) (by decide) m)
  have I2 := Lib.hid (dg_inR (b := 10) (by decide) n)
  have V1 := Lib.hid (val_dg (b := 10) (by decide) m)
  have V2 := Lib.hid (val_dg (b := 10) (by decide) n)
  have hn : (dg 10 n).length ≤ (dg 10 m).length := dg_length_mono (by decide) hle
  clear hr1 hr2
  have HLE := Lib.hid hle
  clear hle
  generalize dg 10 m = p at *
  generalize dg 10 n = q at *
  go_enter Tryz.func99, Tryz.ntmps99
  go_wp2_with fail
  go_loopg [5, 6, 7, 8] p.length (fun g v bo i s8 wr => ∃ (k : Nat) (cc : Int) (l : List Int), i = .int .i64 k ∧ bo = .int .i64 cc ∧ Hid (cc = 0 ∨ cc = 1) ∧ 0 ≤ cc ∧ cc ≤ 1 ∧ k + g = p.length ∧ wr.ownsRow w.heap.size 3 1 v k (l.map (Value.int .i64)) ∧ Hid (l.length = k ∧ InR 10 l ∧ val 10 l - (10 : Int) ^ k * cc = val 10 (p.take k) - val 10 (q.take k)) ∧ Below w.heap.size w wr)
  case atStart => exact ⟨0, 0, [], rfl, rfl, .inl rfl, by omega, by omega, by omega, World.ownsRow_nil _ _ _ _, ⟨rfl, InR.nil _, by simp [val]⟩, Below.refl _ _⟩
  case round =>
    obtain ⟨k, cc, l, rfl, rfl, HC, hcc0, hcc1, hg, hown, HL, hB⟩ := hrel
    have HP := Lib.hid (HR1.out.below hB)
    have HQ := Lib.hid (HR2.out.below hB)
    have HB := Lib.hid hB
    have hsz := hB.size
    clear hB
    by_cases hlt : k < p.length
    · obtain ⟨g, rfl⟩ : ∃ g, gk = g + 1 := ⟨gk - 1, by omega⟩
      have HG := Lib.hid hg
      clear hg
      obtain ⟨b10, b11⟩ := I1.out.at_ (by decide) k
      obtain ⟨b20, b21⟩ := I2.out.at_ (by decide) k
      rw [List.getD_eq_getElem?_getD] at b10 b11 b20 b21
      obtain ⟨a, rfl, hcell⟩ := HP.out k hlt
      obtain ⟨x, hx⟩ : ∃ x, p[k]?.getD 0 = x := ⟨_, rfl⟩
      obtain ⟨y, hy⟩ : ∃ y, q[k]?.getD 0 = y := ⟨_, rfl⟩
      rw [hx] at b10 b11 hcell
      rw [hy] at b20 b21
      obtain ⟨hll, hli, hlv⟩ := HL.out
      have HX := Lib.hid hx
      have HY := Lib.hid hy
      have HLL := Lib.hid hll
      have HLV := Lib.hid hlv
      have HLI := Lib.hid hli
      clear hx hy hlv hli hll
      by_cases hneg : x - y - cc < 0
      · go_wp2_with fail
        go_quiet ((go_at_call 122; exact digit_q A2 c2 q k y wr _ HQ.out HY.out))
        have hownd := own_drewN hown nq
        have hbd := below_drewN HB.out nq
        go_wp2_with (at_builtin; obtain ⟨i0, hi, hz0, hz1, hz2⟩ := info_parts info_int; refine wpList_append_own _ rfl _ _ 30 rfl w.heap.size 3 i0 (.int .i64 0) 1 8 Tryz.underlying30 hi hz0 hz1 hz2 rfl (by decide) _ _ _ rfl (hownd.alloc _) ⟨wr.heap.size, 0, none⟩ 1 1 [.int .i64 (x - y - cc + 10)] rfl rfl (cell_one_new _ _ _) (by simp [Value.oneCell']) (by unfold maxLen; omega) (by omega) (by simp; omega) ?_; intro v' w1 hown1 hgrow1 _; clear hi hz0 hz1 hz2)
        go_roundg g
        case measure => omega
        case rel =>
          refine ⟨k + 1, _, l ++ [x - y - cc + 10], rfl, rfl, .inr rfl, by omega, by omega, by have := HG.out; omega, by simpa using hown1, ⟨by simp [HLL.out], HLI.out.snoc (by omega) (by omega), diff_snoc (b := 10) HLL.out HLV.out HX.out HY.out (by omega)⟩, ?_⟩
          exact (hbd.alloc hsz _).grown hgrow1 (by simp; omega) (own_from hownd)
      · go_wp2_with fail
        go_quiet ((go_at_call 122; exact digit_q A2 c2 q k y wr _ HQ.out HY.out))
        have hownd := own_drewN hown nq
        have hbd := below_drewN HB.out nq
        go_wp2_with (at_builtin; obtain ⟨i0, hi, hz0, hz1, hz2⟩ := info_parts info_int; refine wpList_append_own _ rfl _ _ 30 rfl w.heap.size 3 i0 (.int .i64 0) 1 8 Tryz.underlying30 hi hz0 hz1 hz2 rfl (by decide) _ _ _ rfl (hownd.alloc _) ⟨wr.heap.size, 0, none⟩ 1 1 [.int .i64 (x - y - cc)] rfl rfl (cell_one_new _ _ _) (by simp [Value.oneCell']) (by unfold maxLen; omega) (by omega) (by simp; omega) ?_; intro v' w1 hown1 hgrow1 _; clear hi hz0 hz1 hz2)
        go_roundg g
        case measure => omega
        case rel =>
          refine ⟨k + 1, _, l ++ [x - y - cc], rfl, rfl, .inl rfl, by omega, by omega, by have := HG.out; omega, by simpa using hown1, ⟨by simp [HLL.out], HLI.out.snoc (by omega) (by omega), diff_snoc (b := 10) HLL.out HLV.out HX.out HY.out (by omega)⟩, ?_⟩
          exact (hbd.alloc hsz _).grown hgrow1 (by simp; omega) (own_from hownd)
    · obtain rfl : k = p.length := by omega
      obtain ⟨hl, hi, hv⟩ := HL.out
      have hval := Lib.hid (diff_end (b := 10) (by decide) hl hi (by rw [List.take_of_length_le (by omega)]; exact hv) HC.out V1.out V2.out hn HLE.out)
      obtain ⟨A, c, hve, hlc, hcm, hrow, hln⟩ := own_row hown
      have hfrom := own_from hown
      have HROW := Lib.hid hrow
      have HIN := Lib.hid hi
      have HF := Lib.hid hfrom
      clear hi hv hrow hfrom hown
      subst hve
      have hcm' : c ≤ 9223372036854775807 := by unfold maxLen at hcm; omega
      have HLL := Lib.hid hl
      clear hl hln
      go_wp2_with (go_at_call 61; refine (trim_c A c l wr HROW.out hlc hcm').mono ?_; intro e w' hcut; obtain ⟨rfl, v, rfl, hdg, hblk⟩ := cut_dg (b := 10) (by decide) HROW.out hlc hcm' HIN.out hval.out hcut)
      go_ret
      exact ⟨v, rfl, hdg, fun g hg => by obtain ⟨a, rfl, rfl⟩ := hblk g hg; exact HF.out _ rfl, HB.out⟩

set_option maxRecDepth 100000 in
set_option maxHeartbeats 2000000 in
theorem natCmp_c (v1 v2 : Value) (m n : Nat) (w : World) (h1 : Dg 10 w v1 m) (h2 : Dg 10 w v2 n) (hm : (dg 10 m).length ≤ 1000000) (hn : (dg 10 n).length ≤ 1000000) :
    Calls Tryz.prog 78 #[v1, v2] w fun e w' => e = .returned (.int .i64 (sgn ((m : Int) - n))) ∧ Below w.heap.size w w' := by
  obtain ⟨A1, c1, rfl, hc1, hm1, hr1⟩ := h1
  obtain ⟨A2, c2, rfl, hc2, hm2, hr2⟩ := h2
  have HR1 := Lib.hid hr1
  have HR2 := Lib.hid hr2
  have CL := Lib.hid (@cmp_len 10 (by decide) m n)
  have CT := Lib.hid (@cmp_top 10 (by decide) m n)
  have CE := Lib.hid (@cmp_eq 10 (by decide) m n)
  clear hr1 hr2
  generalize dg 10 m = p at *
  generalize dg 10 n = q at *
  by_cases hlen : p.length = q.length
  · have HLEN := Lib.hid hlen
    have hlb : ((p.length : Int) != (q.length : Int)) = false := by simp [hlen]
    have hlb2 : ((p.length : Int) == (q.length : Int)) = true := by simp [hlen]
    clear hlen
    go_enter Tryz.func78, Tryz.ntmps78
    go_wp2_with fail
    go_loopg [5] p.length (fun g i wr => i = .int .i64 ((g : Int) - 1) ∧ g ≤ p.length ∧ Hid (∀ j, g ≤ j → j < p.length → p[j]?.getD 0 = q[j]?.getD 0) ∧ Hid (Below w.heap.size w wr))
    case atStart => exact ⟨rfl, Nat.le_refl _, fun j h1 h2 => by omega, Below.refl _ _⟩
    case round =>
      obtain ⟨rfl, hk, HEQ, HB⟩ := hrel
      have HP := Lib.hid (HR1.out.below HB.out)
      have HQ := Lib.hid (HR2.out.below HB.out)
      by_cases h0 : gk = 0
      · subst h0
        have hz : sgn ((m : Int) - n) = 0 := by
          have e := CE.out HLEN.out (fun j hj => HEQ.out j (Nat.zero_le _) hj)
          subst e
          rw [Int.sub_self]; exact sgn_zero
        go_wp2
        go_ret
        exact ⟨by rw [hz]; rfl, HB.out⟩
      · obtain ⟨k, rfl⟩ : ∃ k, gk = k + 1 := ⟨gk - 1, by omega⟩
        clear h0
        have hkq : k < q.length := by have := HLEN.out; omega
        obtain ⟨a1, rfl, hx1⟩ := HP.out k (by omega)
        obtain ⟨a2, rfl, hy1⟩ := HQ.out k hkq
        rw [show (((k + 1 : Nat) : Int) - 1) = (k : Int) by omega]
        have hi0 : (0 : Int) ≤ (k : Int) := by omega
        have hi1 : (k : Int) < (p.length : Int) := by omega
        have hi2 : (k : Int) < (q.length : Int) := by omega
        obtain ⟨x, hx⟩ : ∃ x, p[k]?.getD 0 = x := ⟨_, rfl⟩
        obtain ⟨y, hy⟩ : ∃ y, q[k]?.getD 0 = y := ⟨_, rfl⟩
        rw [hx] at hx1
        rw [hy] at hy1
        have HX := Lib.hid hx
        have HY := Lib.hid hy
        clear hx hy
        rcases Int.lt_trichotomy x y with h | h | h
        · have hs : sgn ((m : Int) - n) = -1 := by
            rw [← CT.out HLEN.out k (by omega) (fun j h1 h2 => HEQ.out j (by omega) h2) (by rw [HX.out, HY.out]; omega), HX.out, HY.out]; exact sgn_lt (by omega)
          go_wp2_with fail
          go_quiet (fail)
          go_wp2_with fail
          go_ret
          exact ⟨by rw [hs]; rfl, below_drewN HB.out nq⟩
        · subst h
          go_wp2_with fail
          go_quiet (fail)
          go_wp2_with fail
          go_quiet (fail)
          go_wp2_with fail
          go_roundg k
          case measure => omega
          case rel =>
            refine ⟨rfl, by omega, fun j h1 h2 => ?_, by repeat (first | exact HB.out | refine below_drewN ?_ _)⟩
            by_cases e : j = k
            · subst e; rw [HX.out, HY.out]
            · exact HEQ.out j (by omega) h2
        · have hs : sgn ((m : Int) - n) = 1 := by
            rw [← CT.out HLEN.out k (by omega) (fun j h1 h2 => HEQ.out j (by omega) h2) (by rw [HX.out, HY.out]; omega), HX.out, HY.out]; exact sgn_gt (by omega)
          have hxy : ¬ x < y := by omega
          go_wp2_with fail
          go_quiet (fail)
          go_wp2_with fail
          go_quiet (fail)
          go_wp2_with fail
          go_ret
          exact ⟨by rw [hs]; rfl, by repeat (first | exact HB.out | refine below_drewN ?_ _)⟩
  · have hlb : ((p.length : Int) != (q.length : Int)) = true := by simp; omega
    have hlb2 : ((p.length : Int) == (q.length : Int)) = false := by simp; omega
    have CLL := Lib.hid (CL.out hlen)
    by_cases hlt : p.length < q.length
    · have h1 : sgn ((m : Int) - n) = -1 := by rw [← CLL.out]; exact sgn_lt (by omega)
      clear hlen
      go_enter Tryz.func78, Tryz.ntmps78
      go_wp2
      go_ret
      exact ⟨by rw [h1]; rfl, Below.refl _ _⟩
    · have h1 : sgn ((m : Int) - n) = 1 := by rw [← CLL.out]; exact sgn_gt (by omega)
      clear hlen
      go_enter Tryz.func78, Tryz.ntmps78
      go_wp2
      go_ret
      exact ⟨by rw [h1]; rfl, Below.refl _ _⟩
end Go.Proofs.YtbjgpbdkofadiaaGreatDoor
