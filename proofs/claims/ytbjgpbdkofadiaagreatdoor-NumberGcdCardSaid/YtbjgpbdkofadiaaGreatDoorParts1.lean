/- The parts of a number: at, cut, plus. -/
import Derived.Test.YtbjgpbdkofadiaaGreatDoorProg
import Derived.Test.YtbjgpbdkofadiaaGreatDoorVoc
namespace Go.Proofs.YtbjgpbdkofadiaaGreatDoor
set_option linter.unusedVariables false
set_option linter.unusedSimpArgs false
open Go.RowKit
attribute [local go_sem] max2_int min2_int max_two min_two

def sgn (n : Int) : Int := if n < 0 then -1 else if 0 < n then 1 else 0

set_option maxHeartbeats 400000 in
theorem sign_c (n : Int) (w : World) :
    Calls Tryz.prog 120 #[.int .i64 n] w fun e w' => e = .returned (.int .i64 (sgn n)) ∧ w = w' := by
  rcases Int.lt_trichotomy n 0 with h | h | h
  all_goals
    go_enter Tryz.func120, Tryz.ntmps120
    go_wp2
    go_ret
    exact ⟨by simp [sgn]; omega, rfl⟩

set_option maxHeartbeats 400000 in
theorem at_c (A : Option Addr) (c : Nat) (xs : List Int) (i : Nat) (w : World) (hr : Row .i64 w A xs) :
    Calls Tryz.prog 83 #[.slice A xs.length c, .int .i64 i] w fun e w' => e = .returned (.int .i64 (xs[i]?.getD 0)) ∧ w = w' := by
  by_cases h : i < xs.length
  · obtain ⟨a, rfl, hc⟩ := hr i h
    clear hr
    go_enter Tryz.func83, Tryz.ntmps83
    go_wp2
    go_ret
    exact ⟨by simp [h], rfl⟩
  · clear hr
    go_enter Tryz.func83, Tryz.ntmps83
    go_wp2
    go_ret
    exact ⟨by rw [List.getElem?_eq_none (by omega)]; rfl, rfl⟩

/-- What cut returns: the list up to its last number that is not 0, in place. -/
def CutP (A : Option Addr) (c : Nat) (xs : List Int) (w : World) (e : Ending) (w' : World) : Prop :=
  w = w' ∧ ∃ k, k ≤ xs.length ∧ e = .returned (.slice A k c) ∧ (∀ j, k ≤ j → xs[j]?.getD 0 = 0) ∧ (k = 0 ∨ xs[k - 1]?.getD 0 ≠ 0)

set_option maxHeartbeats 1000000 in
theorem cut_c (A : Option Addr) (c : Nat) (xs : List Int) (w : World) (hr : Row .i64 w A xs) (hc : xs.length ≤ c) (hm : c ≤ 9223372036854775807) :
    Calls Tryz.prog 89 #[.slice A xs.length c] w (CutP A c xs w) := by
  have HR := Lib.hid hr
  clear hr
  go_enter Tryz.func89, Tryz.ntmps89
  go_wp2
  go_loopg [0] xs.length (fun k p wr => p = .slice A k c ∧ k ≤ xs.length ∧ Hid (∀ j, k ≤ j → xs[j]?.getD 0 = 0) ∧ wr = w)
  case atStart => exact ⟨rfl, Nat.le_refl _, fun j hj => by rw [List.getElem?_eq_none hj]; rfl, rfl⟩
  case round =>
    obtain ⟨rfl, hk, HZ, rfl⟩ := hrel
    by_cases h0 : gk = 0
    · subst h0
      go_wp2
      go_ret
      exact ⟨rfl, 0, Nat.zero_le _, rfl, HZ.out, .inl rfl⟩
    · obtain ⟨k, rfl⟩ : ∃ k, gk = k + 1 := ⟨gk - 1, by omega⟩
      clear h0
      obtain ⟨a, rfl, hcell⟩ := HR.out k (by omega)
      by_cases hz : xs[k]?.getD 0 = 0
      · rw [hz] at hcell
        have HZ' : Hid (xs[k]?.getD 0 = 0) := hz
        clear hz
        go_wp2
        go_roundg k
        case measure => omega
        case rel =>
          refine ⟨rfl, by omega, fun j hj => ?_, rfl⟩
          by_cases e : j = k
          · subst e; exact HZ'.out
          · exact HZ.out j (by omega)
      · have HZ' : Hid (xs[k]?.getD 0 ≠ 0) := hz
        generalize hx : xs[k]?.getD 0 = x at hcell hz
        have hb : (x == 0) = false := by simpa using hz
        clear hx hz
        go_wp2
        go_ret
        exact ⟨rfl, k + 1, hk, rfl, HZ.out, .inr (by simpa using HZ'.out)⟩

theorem at_x (A : Option Addr) (c : Nat) (xs : List Int) (i : Nat) (x : Int) (w : World) (hr : Row .i64 w A xs) (hx : xs[i]?.getD 0 = x) :
    Calls Tryz.prog 83 #[.slice A xs.length c, .int .i64 i] w fun e w' => e = .returned (.int .i64 x) ∧ w = w' := by
  subst hx; exact at_c A c xs i w hr

/-- A call returns the digits of n to the base b, in memory of its own; what was there is as it was. -/
def DgP (b n : Nat) (w : World) (e : Ending) (w' : World) : Prop := ∃ v, e = .returned v ∧ Dg b w' v n ∧ FromB w.heap.size v ∧ Below w.heap.size w w'

theorem cut_dg {b : Nat} (hb : 2 ≤ b) {A : Option Addr} {c : Nat} {xs : List Int} {w : World} {n : Nat} {e : Ending} {w' : World} (hr : Row .i64 w A xs) (hc : xs.length ≤ c) (hm : c ≤ 9223372036854775807) (hi : InR b xs) (hv : val b xs = (n : Int))
    (h : CutP A c xs w e w') : w = w' ∧ ∃ v, e = .returned v ∧ Dg b w' v n ∧ (∀ g, v.ownBlock = some g → ∃ a, A = some a ∧ a.block = g) := by
  obtain ⟨rfl, k, hk, rfl, hz, ht⟩ := h
  refine ⟨rfl, _, rfl, ?_, ?_⟩
  · have e := trimmed hb hi hv k hk (fun j hj => by rw [List.getD_eq_getElem?_getD]; exact hz j hj) (by rw [List.getD_eq_getElem?_getD]; exact ht)
    have el : (dg b n).length = k := by rw [← e, List.length_take, Nat.min_eq_left hk]
    refine ⟨A, c, by rw [el], by omega, hm, fun j hj => ?_⟩
    obtain ⟨a, ea, hc⟩ := hr j (by omega)
    refine ⟨a, ea, ?_⟩
    rw [hc, ← e, List.getElem?_take, if_pos (by omega)]
  · intro g hg
    cases A with
    | none => simp [Value.ownBlock] at hg
    | some a => exact ⟨a, rfl, by simpa [Value.ownBlock] using hg⟩

theorem info_int : (Tryz.prog.info? 3).map (fun i => (i.zero, i.size, i.bytes)) = some (some (.int .i64 0), 1, 8) := by kernel_rfl

/-- One place of a sum. -/
theorem sum_step {b : Nat} (hb : 2 ≤ b) {p q l : List Int} {k : Nat} {c x y : Int} (hl : l.length = k) (hv : val b l + (b : Int) ^ k * c = val b (p.take k) + val b (q.take k)) (hx : p[k]?.getD 0 = x) (hy : q[k]?.getD 0 = y) :
    val b (l ++ [(x + y + c) % (b : Int)]) + (b : Int) ^ (k + 1) * ((x + y + c) / (b : Int)) = val b (p.take (k + 1)) + val b (q.take (k + 1)) := by
  rw [val_snoc, val_take_succ, val_take_succ, hl, List.getD_eq_getElem?_getD, List.getD_eq_getElem?_getD, hx, hy]
  have e := Int.emod_add_mul_ediv (x + y + c) b
  have e2 : (b : Int) ^ (k + 1) = (b : Int) ^ k * (b : Int) := Int.pow_succ _ _
  rw [e2]
  generalize (x + y + c) % (b : Int) = r at *
  generalize (x + y + c) / (b : Int) = d at *
  generalize (b : Int) ^ k = B at *
  have : B * (r + (b : Int) * d) = B * (x + y + c) := by rw [e]
  grind

/-- The end of a sum: nothing is carried on. -/
theorem sum_end {b : Nat} (hb : 2 ≤ b) {p q l : List Int} {k : Nat} {c : Int} {m n : Nat} (hp : InR b p) (hq : InR b q) (hpk : p.length < k) (hqk : q.length < k) (hl : l.length = k) (hi : InR b l)
    (hv : val b l + (b : Int) ^ k * c = val b (p.take k) + val b (q.take k)) (hc : 0 ≤ c) (hm : val b p = (m : Int)) (hn : val b q = (n : Int)) : val b l = ((m + n : Nat) : Int) := by
  rw [List.take_of_length_le (by omega), List.take_of_length_le (by omega), hm, hn] at hv
  have h1 := val_lt hp
  have h2 := val_lt hq
  have h0 := val_nonneg hi
  obtain ⟨j, rfl⟩ : ∃ j, k = j + 1 := ⟨k - 1, by omega⟩
  have g1 : (b : Int) ^ p.length ≤ (b : Int) ^ j := pow_mono' (by omega) (by omega)
  have g2 : (b : Int) ^ q.length ≤ (b : Int) ^ j := pow_mono' (by omega) (by omega)
  have g3 : (b : Int) ^ (j + 1) = (b : Int) ^ j * (b : Int) := Int.pow_succ _ _
  have g4 : 0 ≤ (b : Int) ^ j := Int.pow_nonneg (by omega)
  have g5 : (b : Int) ^ j * 2 ≤ (b : Int) ^ j * (b : Int) := Int.mul_le_mul_of_nonneg_left (by omega) g4
  have hc0 : c = 0 := by
    rcases Int.lt_or_le 0 c with h | h
    · exfalso
      have : (b : Int) ^ (j + 1) * 1 ≤ (b : Int) ^ (j + 1) * c := Int.mul_le_mul_of_nonneg_left (by omega) (by omega)
      omega
    · omega
  subst hc0
  simp at hv
  omega

set_option maxHeartbeats 1000000 in
theorem plus_c (v1 v2 : Value) (m n : Nat) (w : World) (h1 : Dg 1000000000 w v1 m) (h2 : Dg 1000000000 w v2 n) (hm : (dg 1000000000 m).length ≤ 1000000) (hn : (dg 1000000000 n).length ≤ 1000000) :
    Calls Tryz.prog 76 #[v1, v2] w (DgP 1000000000 (m + n) w) := by
  obtain ⟨A1, c1, rfl, hc1, _, hr1⟩ := h1
  obtain ⟨A2, c2, rfl, hc2, _, hr2⟩ := h2
  have HR1 := Lib.hid hr1
  have HR2 := Lib.hid hr2
  have I1 := Lib.hid (dg_inR (b := 1000000000) (by decide) m)
  have I2 := Lib.hid (dg_inR (b := 1000000000) (by decide) n)
  have V1 := Lib.hid (val_dg (b := 1000000000) (by decide) m)
  have V2 := Lib.hid (val_dg (b := 1000000000) (by decide) n)
  clear hr1 hr2
  generalize dg 1000000000 m = p at *
  generalize dg 1000000000 n = q at *
  obtain ⟨mx, hmx⟩ : ∃ mx : Nat, (if p.length < q.length then (q.length : Int) else (p.length : Int)) = (mx : Int) := ⟨max p.length q.length, by split <;> omega⟩
  have hmx1 : p.length ≤ mx := by split at hmx <;> omega
  have hmx2 : q.length ≤ mx := by split at hmx <;> omega
  have hmx3 : mx ≤ 1000000 := by split at hmx <;> omega
  go_enter Tryz.func76, Tryz.ntmps76
  go_wp2_with fail
  clear hmx
  go_loopg [5, 6, 15] (mx + 1) (fun g v c i wr => ∃ (k : Nat) (cc : Int) (l : List Int), i = .int .i64 k ∧ c = .int .i64 cc ∧ 0 ≤ cc ∧ cc ≤ 1 ∧ k + g = mx + 1 ∧ wr.ownsRow w.heap.size 3 1 v k (l.map (Value.int .i64)) ∧ Hid (l.length = k ∧ InR 1000000000 l ∧ val 1000000000 l + (1000000000 : Int) ^ k * cc = val 1000000000 (p.take k) + val 1000000000 (q.take k)) ∧ Below w.heap.size w wr)
  case atStart => exact ⟨0, 0, [], rfl, rfl, by omega, by omega, by omega, World.ownsRow_nil _ _ _ _, ⟨rfl, InR.nil _, by simp [val]⟩, Below.refl _ _⟩
  case round =>
    obtain ⟨k, cc, l, rfl, rfl, hc0, hc1', hg, hown, HL, hB⟩ := hrel
    have HP := Lib.hid (HR1.out.below hB)
    have HQ := Lib.hid (HR2.out.below hB)
    have HB := Lib.hid hB
    have hsz := hB.size
    clear hB
    by_cases hlt : k < mx + 1
    · obtain ⟨g, rfl⟩ : ∃ g, gk = g + 1 := ⟨gk - 1, by omega⟩
      have b1 := I1.out.at_ (by decide) k
      have b2 := I2.out.at_ (by decide) k
      rw [List.getD_eq_getElem?_getD] at b1 b2
      obtain ⟨x, hx⟩ : ∃ x, p[k]?.getD 0 = x := ⟨_, rfl⟩
      obtain ⟨y, hy⟩ : ∃ y, q[k]?.getD 0 = y := ⟨_, rfl⟩
      rw [hx] at b1
      rw [hy] at b2
      obtain ⟨b10, b11⟩ := b1
      obtain ⟨b20, b21⟩ := b2
      have CP := Lib.hid (at_x A1 c1 p k x wr HP.out hx)
      have CQ := Lib.hid (at_x A2 c2 q k y wr HQ.out hy)
      have HX := Lib.hid hx
      have HY := Lib.hid hy
      clear hx hy
      have hkb : k ≤ 1000001 := by omega
      have HG := Lib.hid hg
      clear hg
      go_wp2_with (first
        | (go_at_call 83; (with_reducible refine (CP.out).mono ?_); rintro e w' ⟨rfl, rfl⟩)
        | (go_at_call 83; (with_reducible refine (CQ.out).mono ?_); rintro e w' ⟨rfl, rfl⟩)
        | (at_builtin; obtain ⟨i0, hi, hz0, hz1, hz2⟩ := info_parts info_int; refine wpList_append_own _ rfl _ _ 70 rfl w.heap.size 3 i0 (.int .i64 0) 1 8 Tryz.underlying70 hi hz0 hz1 hz2 rfl (by decide) _ _ _ rfl (hown.alloc _) ⟨wr.heap.size, 0, none⟩ 1 1 [.int .i64 ((x + y + cc) % 1000000000)] rfl rfl (cell_one_new _ _ _) (by simp [Value.oneCell']) (by unfold maxLen; omega) (by omega) (by simp; omega) ?_; intro v' w1 hown1 hgrow1 _; clear hi hz0 hz1 hz2))
      have hd0 : 0 ≤ (x + y + cc) / 1000000000 := by omega
      have hd1 : (x + y + cc) / 1000000000 ≤ 1 := by omega
      go_roundg g
      case measure => omega
      case rel =>
        obtain ⟨hl, hi, hv⟩ := HL.out
        refine ⟨k + 1, _, l ++ [(x + y + cc) % 1000000000], rfl, rfl, hd0, hd1, by have := HG.out; omega, by simpa using hown1, ⟨by simp [hl], hi.snoc (by omega) (by omega), sum_step (b := 1000000000) (by decide) hl hv HX.out HY.out⟩, ?_⟩
        exact (HB.out.alloc hsz _).grown hgrow1 (by simp; omega) (own_from hown)
    · obtain rfl : gk = 0 := by omega
      obtain ⟨hl, hi, hv⟩ := HL.out
      obtain ⟨A, c, hve, hlc, hcm, hrow, hln⟩ := own_row hown
      have hfrom := own_from hown
      have hval := Lib.hid (sum_end (b := 1000000000) (by decide) I1.out I2.out (by omega) (by omega) hl hi hv hc0 V1.out V2.out)
      have HROW := Lib.hid hrow
      have HIN := Lib.hid hi
      have HF := Lib.hid hfrom
      clear hi hv hrow hfrom hown
      subst hve
      have hcm' : c ≤ 9223372036854775807 := by unfold maxLen at hcm; omega
      have hlen : k = l.length := hl.symm
      subst hlen
      go_wp2_with (go_at_call 89; refine (cut_c A c l wr HROW.out hlc hcm').mono ?_; intro e w' hcut; obtain ⟨rfl, v, rfl, hdg, hblk⟩ := cut_dg (b := 1000000000) (by decide) HROW.out hlc hcm' HIN.out hval.out hcut)
      go_ret
      exact ⟨v, rfl, hdg, fun g hg => by obtain ⟨a, rfl, rfl⟩ := hblk g hg; exact HF.out _ rfl, HB.out⟩

end Go.Proofs.YtbjgpbdkofadiaaGreatDoor
