/- The parts of a number: slices.Clone, minus. -/
import Derived.Test.YtbjgpbdkofadiaaGreatDoorParts1
import Derived.Lib.SliceRun
namespace Go.Proofs.YtbjgpbdkofadiaaGreatDoor
set_option linter.unusedVariables false
set_option linter.unusedSimpArgs false
open Go.RowKit
attribute [local go_sem] max2_int min2_int max_two min_two

theorem at_q (A : Option Addr) (c : Nat) (xs : List Int) (i : Nat) (x : Int) (w : World) (n : Nat) (hr : Row .i64 w A xs) (hx : xs[i]?.getD 0 = x) :
    Calls Tryz.prog 83 #[.slice A xs.length c, .int .i64 i] (w.drewN n) fun e w' => e = .returned (.int .i64 x) ∧ ∃ m, w' = w.drewN m :=
  (at_x A c xs i x (w.drewN n) (hr.below (below_drewN (Below.refl _ _) n)) hx).mono fun _ _ ⟨he, hw⟩ => ⟨he, n, hw.symm⟩

set_option maxHeartbeats 1000000 in
theorem clone_c (A : Option Addr) (c : Nat) (xs : List Int) (w : World) (hr : Row .i64 w A xs) (hb : xs.length ≤ 1000000) :
    Calls Tryz.prog 134 #[.slice A xs.length c] w fun e w' => ∃ v, e = .returned v ∧ w'.ownsRow w.heap.size 3 1 v xs.length (xs.map (Value.int .i64)) ∧ Below w.heap.size w w' := by
  obtain ⟨i0, hi, hz0, hz1, hz2⟩ := info_parts info_int
  have q22 : ∀ (w : World) (a : Option Addr) (n c n' c' : Nat), (binOp .eql 70 (.slice a n c) (.slice none n' c')).run Tryz.prog w = .ok (.bool a.isNone) w := fun w a n c n' c' => Lib.run_eql_slice_nil w _ _ a n c n' c' Tryz.underlying70
  have HR := Lib.hid hr
  clear hr
  have HI := Lib.hid (And.intro hi (And.intro hz0 (And.intro hz1 hz2)))
  clear hi hz0 hz1 hz2
  cases A with
  | none =>
    have hx : xs = [] := by
      cases xs with
      | nil => rfl
      | cons x xs => obtain ⟨a, e, _⟩ := HR.out 0 (by simp); cases e
    subst hx
    go_enter Tryz.func134, Tryz.ntmps134
    go_wp2
    go_ret
    exact ⟨_, rfl, World.ownsRow_nil _ _ _ _, Below.refl _ _⟩
  | some a =>
    go_enter Tryz.func134, Tryz.ntmps134
    go_wp2_with (at_builtin; refine wpList_append_own _ rfl _ _ 70 rfl w.heap.size 3 i0 (.int .i64 0) 1 8 Tryz.underlying70 HI.out.1 HI.out.2.1 HI.out.2.2.1 HI.out.2.2.2 rfl (by decide) _ _ _ rfl (World.ownsRow_made w #[] 0 (Nat.le_refl _) (Nat.zero_le _) rfl) a xs.length c (xs.map (Value.int .i64)) rfl (by simp) ?qc2 ?qc3 ?qc4 ?qc5 ?qc6 ?_)
    case qc2 =>
      intro j u hj
      have hjn : j < xs.length := by
        have := (List.getElem?_eq_some_iff.1 hj).1
        simpa using this
      obtain ⟨a', e, hc⟩ := (HR.out.alloc (.cells #[] 3)) j hjn
      cases e
      rw [hc]
      rw [List.getElem?_map, List.getElem?_eq_getElem hjn] at hj
      rw [List.getElem?_eq_getElem hjn]
      exact hj
    case qc3 => intro u hu; obtain ⟨x, _, rfl⟩ := List.mem_map.1 hu; rfl
    case qc4 => unfold maxLen; omega
    case qc5 => omega
    case qc6 => simp
    intro v' w1 hown hgrow hnil
    go_wp2
    go_ret
    refine ⟨v', rfl, by simpa using hown, ?_⟩
    exact ((Below.refl _ w).alloc (Nat.le_refl _) _).grown hgrow (by simp) (by intro k hk; simp [Value.ownBlock] at hk; omega)

/-- One place of a difference. -/
theorem diff_step {b : Nat} {p q l : List Int} {k : Nat} {c x y : Int} {d r : Int} (hl : k < l.length) (hv : val b (l.take k) - (b : Int) ^ k * c = val b (p.take k) - val b (q.take k)) (hx : p[k]?.getD 0 = x) (hy : q[k]?.getD 0 = y)
    (hd : x - y - c = r - (b : Int) * d) : val b ((l.set k r).take (k + 1)) - (b : Int) ^ (k + 1) * d = val b (p.take (k + 1)) - val b (q.take (k + 1)) := by
  have e1 : (l.set k r).take k = l.take k := by rw [List.take_set_of_le (Nat.le_refl _)]
  rw [val_take_succ, val_take_succ, val_take_succ, e1, getD_set _ _ _ _ hl, if_pos rfl, List.getD_eq_getElem?_getD, List.getD_eq_getElem?_getD, hx, hy, Int.pow_succ]
  generalize (b : Int) ^ k = B at *
  have : B * (x - y - c) = B * (r - (b : Int) * d) := by rw [hd]
  grind

/-- The end of a difference: nothing is borrowed. -/
theorem diff_end {b : Nat} (hb : 2 ≤ b) {p q l : List Int} {c : Int} {m n : Nat} (hl : l.length = p.length) (hi : InR b l) (hv : val b (l.take p.length) - (b : Int) ^ p.length * c = val b (p.take p.length) - val b (q.take p.length))
    (hc : c = 0 ∨ c = 1) (hm : val b p = (m : Int)) (hn : val b q = (n : Int)) (hqp : q.length ≤ p.length) (hle : n ≤ m) : val b l = ((m - n : Nat) : Int) := by
  rw [List.take_of_length_le (by omega), List.take_of_length_le (by omega), List.take_of_length_le (by omega), hm, hn] at hv
  have h1 := val_lt hi
  rw [hl] at h1
  rcases hc with rfl | rfl
  · simp at hv; omega
  · simp at hv; omega

set_option maxHeartbeats 2000000 in
theorem minus_c (v1 v2 : Value) (m n : Nat) (w : World) (h1 : Dg 1000000000 w v1 m) (h2 : Dg 1000000000 w v2 n) (hm : (dg 1000000000 m).length ≤ 1000000) (hle : n ≤ m) :
    Calls Tryz.prog 119 #[v1, v2] w (DgP 1000000000 (m - n) w) := by
  obtain ⟨A1, c1, rfl, hc1, _, hr1⟩ := h1
  obtain ⟨A2, c2, rfl, hc2, _, hr2⟩ := h2
  have HR1 := Lib.hid hr1
  have HR2 := Lib.hid hr2
  have I1 := Lib.hid (dg_inR (b := 1000000000) (by decide) m)
  have I2 := Lib.hid (dg_inR (b := 1000000000) (by decide) n)
  have V1 := Lib.hid (val_dg (b := 1000000000) (by decide) m)
  have V2 := Lib.hid (val_dg (b := 1000000000) (by decide) n)
  have hn : (dg 1000000000 n).length ≤ (dg 1000000000 m).length := dg_length_mono (by decide) hle
  clear hr1 hr2
  have HLE := Lib.hid hle
  clear hle
  generalize dg 1000000000 m = p at *
  generalize dg 1000000000 n = q at *
  go_enter Tryz.func119, Tryz.ntmps119
  go_wp2_with (go_at_call 134; refine (clone_c A1 c1 p w HR1.out hm).mono ?_; rintro e w0 ⟨v0, rfl, hown0, hB0⟩; obtain ⟨A, c, rfl, hlc, hcm, -, -⟩ := own_row hown0)
  have HO := Lib.hid hown0
  have HB0 := Lib.hid hB0
  clear hown0 hB0
  go_loopg [6, 13] p.length (fun g bo i wr => ∃ (k : Nat) (cc : Int) (l : List Int), i = .int .i64 k ∧ bo = .int .i64 cc ∧ Hid (cc = 0 ∨ cc = 1) ∧ 0 ≤ cc ∧ cc ≤ 1 ∧ k + g = p.length ∧ Hid (wr.ownsRow w.heap.size 3 1 (.slice A p.length c) p.length (l.map (Value.int .i64))) ∧ Hid (l.length = p.length ∧ InR 1000000000 l ∧ val 1000000000 (l.take k) - (1000000000 : Int) ^ k * cc = val 1000000000 (p.take k) - val 1000000000 (q.take k)) ∧ Hid (Below w.heap.size w wr))
  case atStart => exact ⟨0, 0, p, rfl, rfl, .inl rfl, by omega, by omega, by omega, HO.out, ⟨rfl, I1.out, by simp [val]⟩, HB0.out⟩
  case round =>
    obtain ⟨k, cc, l, rfl, rfl, HC, hcc0, hcc1, hg, HOW, HL, HB⟩ := hrel
    have HP := Lib.hid (HR1.out.below HB.out)
    have HQ := Lib.hid (HR2.out.below HB.out)
    have hsz := HB.out.size
    by_cases hlt : k < p.length
    · obtain ⟨g, rfl⟩ : ∃ g, gk = g + 1 := ⟨gk - 1, by omega⟩
      have HG := Lib.hid hg
      clear hg
      obtain ⟨b10, b11⟩ := I1.out.at_ (by decide) k
      obtain ⟨b20, b21⟩ := I2.out.at_ (by decide) k
      rw [List.getD_eq_getElem?_getD] at b10 b11 b20 b21
      obtain ⟨a, rfl, hcell⟩ := HP.out k hlt
      obtain ⟨x, hx⟩ : ∃ x, p[k]?.getD 0 = x := ⟨_, rfl⟩
      obtain ⟨y, hy⟩ : ∃ y, q[k]?.getD 0 = y := ⟨_, rfl⟩
      rw [hx] at b10 b11 hcell
      rw [hy] at b20 b21
      obtain ⟨gb, cap, hv, hgb, hgb2⟩ := HOW.out.form (by omega)
      obtain ⟨rfl, rfl⟩ : A = some ⟨gb, 0, none⟩ ∧ c = cap := by simpa using hv
      clear hv
      obtain ⟨hll, hli, hlv⟩ := HL.out
      have hold : wr.cell? ⟨gb, k, none⟩ = some (.int .i64 (l[k]?.getD 0)) := by
        rw [HOW.out.cellAt k (by omega), List.getElem?_map, List.getElem?_eq_getElem (by omega)]; rfl
      obtain ⟨z, hz⟩ : ∃ z, l[k]?.getD 0 = z := ⟨_, rfl⟩
      rw [hz] at hold
      have hfz : wr.frozen? ⟨gb, k, none⟩ = false := HOW.out.frozenAt k
      have HX := Lib.hid hx
      have HY := Lib.hid hy
      have HLV := Lib.hid hlv
      have HLI := Lib.hid hli
      clear hx hy hz hlv hli
      by_cases hneg : x - y - cc < 0
      · go_wp2_with fail
        go_quiet ((go_at_call 83; exact at_q A2 c2 q k y wr _ HQ.out HY.out))
        go_wp2
        go_roundg g
        case measure => omega
        case rel =>
          refine ⟨k + 1, _, l.set k (x - y - cc + 1000000000), rfl, rfl, .inr rfl, by omega, by omega, by have := HG.out; omega, ?_, ⟨by simpa using hll, HLI.out.set k (by omega) (by omega), diff_step (b := 1000000000) (by omega) HLV.out HX.out HY.out (by omega)⟩, ?_⟩
          · show World.ownsRow _ _ _ _ _ _ _
            rw [List.map_set]
            exact own_drewN (HOW.out.stored k _).1 nq
          · exact below_drewN (HB.out.setCell (p := ⟨gb, k, none⟩) hgb _) nq
      · go_wp2_with fail
        go_quiet ((go_at_call 83; exact at_q A2 c2 q k y wr _ HQ.out HY.out))
        go_wp2
        go_roundg g
        case measure => omega
        case rel =>
          refine ⟨k + 1, _, l.set k (x - y - cc), rfl, rfl, .inl rfl, by omega, by omega, by have := HG.out; omega, ?_, ⟨by simpa using hll, HLI.out.set k (by omega) (by omega), diff_step (b := 1000000000) (by omega) HLV.out HX.out HY.out (by omega)⟩, ?_⟩
          · show World.ownsRow _ _ _ _ _ _ _
            rw [List.map_set]
            exact own_drewN (HOW.out.stored k _).1 nq
          · exact below_drewN (HB.out.setCell (p := ⟨gb, k, none⟩) hgb _) nq
    · obtain rfl : k = p.length := by omega
      obtain ⟨hl, hi, hv⟩ := HL.out
      have hval := Lib.hid (diff_end (b := 1000000000) (by decide) hl hi hv HC.out V1.out V2.out hn HLE.out)
      obtain ⟨A', c', hve, hlc', hcm', hrow, hln⟩ := own_row HOW.out
      have hfrom := own_from HOW.out
      obtain ⟨rfl, -, rfl⟩ : A = A' ∧ p.length = l.length ∧ c = c' := by simpa using hve
      have HROW := Lib.hid hrow
      have HIN := Lib.hid hi
      have HF := Lib.hid hfrom
      have hcm2 : c ≤ 9223372036854775807 := by unfold maxLen at hcm'; omega
      have hlc2 : l.length ≤ c := hlc'
      clear hi hv hrow hfrom hve hln hcm' hlc' HL HOW
      have hlen := Lib.hid hl
      clear hl
      go_wp2_with (go_at_call 89; rw [← hlen.out]; refine (cut_c A c l wr HROW.out hlc2 hcm2).mono ?_; intro e w' hcut; obtain ⟨rfl, v, rfl, hdg, hblk⟩ := cut_dg (b := 1000000000) (by decide) HROW.out hlc2 hcm2 HIN.out hval.out hcut)
      go_ret
      exact ⟨v, rfl, hdg, fun g hg => by obtain ⟨a, rfl, rfl⟩ := hblk g hg; exact HF.out _ rfl, HB.out⟩

end Go.Proofs.YtbjgpbdkofadiaaGreatDoor
