/- Package real: Sum. -/
import Derived.Test.YtekbfommnmikbaaGreatDoorRealU
namespace Go.Proofs.YtekbfommnmikbaaGreatDoor
set_option linter.unusedVariables false
set_option linter.unusedSimpArgs false
open Go.RowKit Go.Shelf Go.Proofs
attribute [local go_sem ↓] Go.wp_at_zero Go.wp_at_succ

set_option maxHeartbeats 1000000 in
theorem sumf_c (m e : Int) (w : World) (h0 : -9223372036854775808 ≤ m) (h1 : m ≤ 9223372036854775807) : Calls Tryz.prog 116 #[.agg #[.int .i64 m, .int .i64 e]] w fun en w' => en = .returned (.bool (!decide (RV m.natAbs e))) ∧ Below w.heap.size w w' := by
  obtain ⟨b, hb⟩ : ∃ b, decide (RV m.natAbs e) = b := ⟨_, rfl⟩
  have HV := Lib.hid (fun w' => validR_c m e w' h0 h1)
  rw [hb] at HV ⊢
  clear hb h0 h1
  go_enter Tryz.func116, Tryz.ntmps116
  go_wp2_with (go_at_call 33; (with_reducible refine (HV.out _).mono ?_); rintro en w2 ⟨rfl, hbz⟩; have HB2 := Lib.hid hbz; clear hbz)
  go_ret
  exact ⟨rfl, belowT ((Below.refl _ _).alloc (Nat.le_refl _) _) HB2.out⟩

/-- Ints. -/
def In64 (l : List (Int × Int)) : Prop := ∀ p ∈ l, -9223372036854775808 ≤ p.1 ∧ p.1 ≤ 9223372036854775807

set_option maxRecDepth 100000 in
set_option maxHeartbeats 2000000 in
theorem indexfR_c (A : Option Addr) (c : Nat) (l : List (Int × Int)) (w : World) (hr : Reals w A l) (hi : In64 l) (hl : l.length ≤ 9223372036854775807) :
    Calls Tryz.prog 176 #[.slice A l.length c, .func (.func 116) #[] #[]] w fun e w' => (∃ i : Int, e = .returned (.int .i64 i) ∧ (0 ≤ i ↔ ∃ p ∈ l, ¬ RV p.1.natAbs p.2)) ∧ Below w.heap.size w w' := by
  have HR := Lib.hid hr; have HI := Lib.hid hi
  clear hr hi
  go_enter Tryz.func176, Tryz.ntmps176
  go_wp2_with fail
  go_loopg [8] l.length (fun g iv wr => ∃ k : Nat, iv = .int .i64 (k : Int) ∧ k + g = l.length ∧ Hid (∀ p ∈ l.take k, RV p.1.natAbs p.2) ∧ Hid (Below w.heap.size w wr))
  case atStart => exact ⟨0, rfl, by omega, fun x hx => by simp at hx, Below.refl _ _⟩
  case round =>
    obtain ⟨k, rfl, hk, HZ, HB⟩ := hrel
    by_cases hlt : k < l.length
    · obtain ⟨a, rfl, hc0, hc1⟩ := (HR.out.below HB.out) k hlt
      have HT := Lib.hid (drop_take' hlt (d := l[k]?.getD (0, 0)) (x := (0, 0)) rfl)
      have hmem : l[k]?.getD (0, 0) ∈ l := by rw [List.getElem?_eq_getElem hlt]; exact List.getElem_mem hlt
      have h64 := HI.out _ hmem
      obtain ⟨m, e, hme⟩ : ∃ m e, l[k]?.getD (0, 0) = (m, e) := ⟨_, _, rfl⟩
      rw [hme] at hc0 hc1 h64 HT hmem
      dsimp only at hc0 hc1 h64
      have hc1' : wr.cell? { block := (a.add (k * 2)).block, off := (a.add (k * 2)).off + 1, spot := none } = some (.int .i64 e) := hc1
      have HM := Lib.hid hmem
      have HK := Lib.hid hk
      have HF := Lib.hid (fun w' => sumf_c m e w' h64.1 h64.2)
      clear hk hmem hme h64
      by_cases hv : RV m.natAbs e
      · rw [show (!decide (RV m.natAbs e)) = false from by rw [decide_eq_true hv]; rfl] at HF
        have HV := Lib.hid hv
        clear hv
        go_wp2_with (go_at_call 116; (with_reducible refine (HF.out _).mono ?_); rintro en w2 ⟨rfl, hbz⟩; have HB2 := Lib.hid hbz; clear hbz)
        go_roundg (gk - 1)
        case measure => have := HK.out; omega
        case rel =>
          refine ⟨k + 1, by go_num, by have := HK.out; omega, fun y hy => ?_, belowT HB.out HB2.out⟩
          rw [HT.out] at hy
          rcases List.mem_append.1 hy with hy | hy
          · exact HZ.out y hy
          · rw [List.mem_singleton.1 hy]; exact HV.out
      · rw [show (!decide (RV m.natAbs e)) = true from by rw [decide_eq_false hv]; rfl] at HF
        have HV := Lib.hid hv
        clear hv
        go_wp2_with (go_at_call 116; (with_reducible refine (HF.out _).mono ?_); rintro en w2 ⟨rfl, hbz⟩; have HB2 := Lib.hid hbz; clear hbz)
        go_ret
        exact ⟨⟨_, rfl, fun _ => ⟨_, HM.out, HV.out⟩, fun _ => by omega⟩, belowT HB.out HB2.out⟩
    · have HN : Hid (¬ ∃ p ∈ l, ¬ RV p.1.natAbs p.2) := by
        rintro ⟨x, hx, h0⟩
        exact h0 (HZ.out x (by rw [List.take_of_length_le (by omega)]; exact hx))
      go_wp2_with fail
      go_ret
      exact ⟨⟨_, rfl, fun h => by omega, fun h => absurd h HN.out⟩, HB.out⟩

set_option maxHeartbeats 1000000 in
theorem containsfR_c (A : Option Addr) (c : Nat) (l : List (Int × Int)) (b : Bool) (w : World) (hr : Reals w A l) (hi : In64 l) (hl : l.length ≤ 9223372036854775807) (hb : b = true ↔ ∃ p ∈ l, ¬ RV p.1.natAbs p.2) :
    Calls Tryz.prog 115 #[.slice A l.length c, .func (.func 116) #[] #[]] w fun e w' => e = .returned (.bool b) ∧ Below w.heap.size w w' := by
  have HR := Lib.hid hr; have HL := Lib.hid hl; have HBB := Lib.hid hb; have HIN := Lib.hid hi
  clear hr hl hb hi
  go_enter Tryz.func115, Tryz.ntmps115
  go_wp2_with (go_at_call 176; (with_reducible refine (indexfR_c A c l _ HR.out HIN.out HL.out).mono ?_); rintro e w' ⟨⟨i, rfl, hi⟩, hbz⟩; have HI := Lib.hid hi; have HB2 := Lib.hid hbz; clear hi hbz)
  go_ret
  refine ⟨?_, HB2.out⟩
  rw [show b = decide (0 ≤ i) from by rw [Bool.eq_iff_iff, HBB.out, decide_eq_true_iff]; exact HI.out.symm]
  rfl

/-- The exact sum, rounded. -/
def sumR (l : List (Int × Int)) : Value := resR (decide (sumV l < 0)) (rnd (sumV l).natAbs (-222))
theorem sum_R (A : Option Addr) (c : Nat) (l : List (Int × Int)) (w : World) (hr : Reals w A l) (hv : ∀ p ∈ l, RV p.1.natAbs p.2) (hl : l.length ≤ 1000) :
    Calls Tryz.prog 110 #[.slice A l.length c] w fun en w' => ∃ v, en = .returned v ∧ AmtR w' v (sumR l) ∧ Below w.heap.size w w' := by
  refine (sum_c A c l w hr hv hl).mono ?_
  rintro en w' ⟨v, ds, rfl, ha, hi, hd, hn, hb⟩
  refine ⟨v, rfl, ⟨_, ds, _, _, ha, hi, by omega, by omega, by omega, ?_⟩, hb⟩
  unfold sumR
  rw [show withMore ds false = ds from rfl, show expMore (-222) false = -222 from rfl, hd, Int.toNat_natCast]
theorem res_sumR (l : List (Int × Int)) : ∃ a b c, sumR l = .tuple #[.agg #[.int .i64 a, .int .i64 b], .int .i64 c] := res_form _ _

/-- What Sum returns. -/
def okL (l : List (Int × Int)) : Bool := l.all fun p => decide (RV p.1.natAbs p.2)
def sumX (l : List (Int × Int)) : Value := if 1000 < l.length then .tuple #[.agg #[.int .i64 0, .int .i64 0], .int .i64 2] else if okL l = true then sumR l else .tuple #[.agg #[.int .i64 0, .int .i64 0], .int .i64 1]
theorem bx1h (w : World) (a0 : Array Value) (t0 : TypeId) : ∃ W, w.alloc (.cells a0 t0) = W ∧ W.heap[w.heap.size]? = some (.cells a0 t0 (0, 0)) ∧ Below w.heap.size w W :=
  ⟨_, rfl, heap_alloc_new _ _, (Below.refl _ _).alloc (Nat.le_refl _) _⟩

set_option maxRecDepth 100000 in
set_option maxHeartbeats 2000000 in
theorem sumX_c (A : Option Addr) (c : Nat) (l : List (Int × Int)) (w : World) (hr : Reals w A l) (hi : In64 l) (hl : l.length ≤ 9223372036854775807) :
    Calls Tryz.prog 40 #[.slice A l.length c] w fun en w' => en = .returned (sumX l) ∧ Below w.heap.size w w' := by
  obtain ⟨W, hW, k0, hbel⟩ := bx1h w #[.int .i64 0, .int .i64 0] 23
  have HBEL := Lib.hid hbel
  have FIN := fin2 k0 (Nat.le_refl _) hbel
  have BOX := box2 k0
  have HR := Lib.hid (hr.below hbel); have HIN := Lib.hid hi; have HL := Lib.hid hl
  clear k0 hbel hr hi
  by_cases h : 1000 < l.length
  · have e : sumX l = .tuple #[.agg #[.int .i64 0, .int .i64 0], .int .i64 2] := by unfold sumX; rw [if_pos h]
    rw [e]
    clear e
    have h' : (1000 : Int) < (l.length : Int) := by omega
    obtain ⟨b0, b1, b2, b3⟩ := BOX.out W (Below.refl _ _)
    go_enter Tryz.func40, Tryz.ntmps40
    go_wp2_with fail
    obtain ⟨r0, r1, hbb⟩ := FIN.out W 0 0 (Below.refl _ _)
    refine bodyPost_ret (v := .tuple #[.agg #[.int .i64 0, .int .i64 0], .int .i64 2]) (by simp [results, Tryz.results40, go_sem, r0, r1]) rfl ?_
    exact ⟨rfl, hbb⟩
  · have h' : ¬ (1000 : Int) < (l.length : Int) := by omega
    obtain ⟨ok, hok⟩ : ∃ b, okL l = b := ⟨_, rfl⟩
    have hb : (!ok) = true ↔ ∃ p ∈ l, ¬ RV p.1.natAbs p.2 := by
      rw [← hok]
      unfold okL
      rw [Bool.not_eq_true', ← Bool.not_eq_true, List.all_eq_true]
      simp
    have HCF := Lib.hid (fun w' (hr' : Reals w' A l) => containsfR_c A c l (!ok) w' hr' HIN.out HL.out hb)
    clear hb
    cases ok
    · have e : sumX l = .tuple #[.agg #[.int .i64 0, .int .i64 0], .int .i64 1] := by unfold sumX; rw [if_neg h, if_neg (by rw [hok]; decide)]
      rw [e]
      clear e hok
      go_enter Tryz.func40, Tryz.ntmps40
      go_wp2_with (go_at_call 115; (with_reducible refine (HCF.out _ HR.out).mono ?_); rintro en w2 ⟨rfl, hbz⟩; obtain ⟨b0, b1, b2, b3⟩ := BOX.out _ hbz; have HB2 := Lib.hid hbz; clear hbz)
      obtain ⟨r0, r1, hbb⟩ := FIN.out w2 0 0 HB2.out
      refine bodyPost_ret (v := .tuple #[.agg #[.int .i64 0, .int .i64 0], .int .i64 1]) (by simp [results, Tryz.results40, go_sem, r0, r1]) rfl ?_
      exact ⟨rfl, hbb⟩
    · have e : sumX l = sumR l := by unfold sumX; rw [if_neg h, if_pos hok]
      have hv : ∀ p ∈ l, RV p.1.natAbs p.2 := by
        intro p hp
        unfold okL at hok
        exact of_decide_eq_true (List.all_eq_true.1 hok p hp)
      have HSM := Lib.hid (fun w' (hr' : Reals w' A l) => sum_R A c l w' hr' hv (by omega))
      rw [e]
      obtain ⟨a, b, d, hres⟩ := res_sumR l
      rw [hres] at HSM ⊢
      clear e hok hv hres
      go_enter Tryz.func40, Tryz.ntmps40
      go_wp2_with (first
        | (go_at_call 115; (with_reducible refine (HCF.out _ HR.out).mono ?_); rintro en w2 ⟨rfl, hbz⟩; have HB2 := Lib.hid hbz; clear hbz)
        | (go_at_call 110; (with_reducible refine (HSM.out _ (HR.out.below HB2.out)).mono ?_); rintro en w3 ⟨v, rfl, ha, hbz⟩; have HA := Lib.hid ha; have HB3 := Lib.hid (belowT HB2.out hbz); clear hbz ha)
        | (go_at_call 88; (with_reducible refine (rounded_R HA.out).mono ?_); rintro en w4 ⟨rfl, hbz⟩; have hb4 := belowT HB3.out hbz; obtain ⟨b0, b1, b2, b3⟩ := BOX.out _ hb4; have HB4 := Lib.hid hb4; clear hbz hb4))
      obtain ⟨r0, r1, hbb⟩ := FIN.out w4 a b HB4.out
      refine bodyPost_ret (v := .tuple #[.agg #[.int .i64 a, .int .i64 b], .int .i64 d]) (by simp [results, Tryz.results40, go_sem, r0, r1]) rfl ?_
      exact ⟨rfl, hbb⟩
end Go.Proofs.YtekbfommnmikbaaGreatDoor
