/- Texts of this claim, merged: RealF, RealG, RealH, RealI, RealJ, RealK, RealL. -/
import Derived.Test.YtekbfommnmikbaaGreatDoorO2
import Derived.BigRegion
import Derived.StillTailTactics
import Derived.RegionIn
import Derived.BigRegionIn
import Derived.Stop.RegionWithIn
/- Package real: columns. -/
namespace Go.Proofs.YtekbfommnmikbaaGreatDoor
set_option linter.unusedVariables false
set_option linter.unusedSimpArgs false
open Go.RowKit Go.Shelf Go.Proofs
attribute [local go_sem ↓] Go.wp_at_zero Go.wp_at_succ

/-- The columns t lie in block B. -/
def Cols (w : World) (B : Nat) (t : List Int) : Prop := w.heap[B]? = some (.cells (t.map (Value.int .i64)).toArray 173 (0, 0))
theorem Cols.cell {w : World} {B : Nat} {t : List Int} (h : Cols w B t) (i : Nat) (hi : i < t.length) : w.cell? ⟨B, i, none⟩ = some (.int .i64 (t[i]?.getD 0)) := by
  rw [cell_of_heap h, List.getElem?_toArray, List.getElem?_map, List.getElem?_eq_getElem hi]; rfl
theorem Cols.free {w : World} {B : Nat} {t : List Int} (h : Cols w B t) (i : Nat) : w.frozen? ⟨B, i, none⟩ = false := free_of_heap h i
theorem Cols.put {w : World} {B : Nat} {t : List Int} (h : Cols w B t) (i : Nat) (x : Int) : Cols (w.setCell ⟨B, i, none⟩ (.int .i64 x)) B (t.set i x) := by
  have := putB h i (.int .i64 x)
  unfold Cols
  rw [this]
  congr 2
  simp
theorem Cols.drew {w : World} {B : Nat} {t : List Int} (h : Cols w B t) : Cols w.drew B t := h
theorem Cols.zero (w : World) : Cols (w.alloc (.cells Tryz.zeroCells173 173)) w.heap.size (List.replicate 430 0) := by
  have e : Tryz.zeroCells173 = ((List.replicate 430 (0 : Int)).map (Value.int .i64)).toArray := by kernel_rfl
  unfold Cols
  rw [heap_alloc_new, e]

/-- All but block B is kept. -/
structure Kb (B : Nat) (w w' : World) : Prop where
  os : w'.os = w.os
  tape : w'.tape = w.tape
  output : w'.output = w.output
  size : w.heap.size ≤ w'.heap.size
  block : ∀ g, g < w.heap.size → g ≠ B → w'.heap[g]? = w.heap[g]?
theorem Kb.refl (B : Nat) (w : World) : Kb B w w := ⟨rfl, rfl, rfl, Nat.le_refl _, fun _ _ _ => rfl⟩
theorem Kb.trans {B : Nat} {a b c : World} (h : Kb B a b) (k : Kb B b c) : Kb B a c := ⟨k.os.trans h.os, k.tape.trans h.tape, k.output.trans h.output, Nat.le_trans h.size k.size, fun g hg hB => (k.block g (Nat.lt_of_lt_of_le hg h.size) hB).trans (h.block g hg hB)⟩
theorem Kb.set (B i : Nat) (w : World) (v : Value) : Kb B w (w.setCell ⟨B, i, none⟩ v) :=
  have h := (Below.refl B w).setCell (p := ⟨B, i, none⟩) (Nat.le_refl _) v
  ⟨h.os, h.tape, h.output, h.size, fun g _ hB => Below.heap_setCell _ _ _ _ hB⟩
theorem Kb.of {B : Nat} {w w' : World} (h : Below w.heap.size w w') : Kb B w w' := ⟨h.os, h.tape, h.output, h.size, fun g hg _ => h.block g hg⟩
theorem Kb.drew (B : Nat) (w : World) : Kb B w w.drew := Kb.of (Below.refl _ _).drew
theorem Kb.below {B : Nat} {w w' : World} (h : Kb B w w') (hB : B < w.heap.size) : Below B w w' := ⟨h.os, h.tape, h.output, h.size, fun g hg => h.block g (by omega) (by omega)⟩
theorem Kb.heap {B : Nat} {w w' : World} (h : Kb B w w') {g : Nat} {o : Obj} (hg : w.heap[g]? = some o) (hB : g ≠ B) : w'.heap[g]? = some o := (h.block g (Array.getElem?_eq_some_iff.1 hg).1 hB).trans hg
/-- Bytes lie in no columns. -/
theorem Kb.row {B : Nat} {w w' : World} {t : List Int} {A : Option Addr} {xs : List Int} (h : Kb B w w') (hc : Cols w B t) (hr : Row .u8 w A xs) : Row .u8 w' A xs := fun j hj => by
  obtain ⟨a, e, hc2⟩ := hr j hj
  refine ⟨a, e, ?_⟩
  have hlt := World.block_lt_of_cell? w _ hc2
  have hne : (a.add j).block ≠ B := fun e2 => by
    have h3 : w.cell? (a.add j) = (t.map (Value.int .i64)).toArray[(a.add j).off]? ∨ (a.add j).spot ≠ none := by
      rcases hs : (a.add j).spot with _ | s
      · left
        have e3 : a.add j = ⟨B, (a.add j).off, none⟩ := by rw [← e2, ← hs]
        conv => lhs; rw [e3]
        rw [cell_of_heap hc]
      · right; simp
    rcases h3 with h3 | h3
    · rw [hc2, List.getElem?_toArray, List.getElem?_map] at h3
      cases h4 : t[(a.add j).off]? with
      | none => rw [h4] at h3; cases h3
      | some x => rw [h4] at h3; simp at h3
    · unfold World.cell? at hc2
      rw [e2, hc] at hc2
      simp at hc2
  rw [World.cell?_of_block (w := w) (h.block _ hlt hne)]
  exact hc2
set_option maxRecDepth 100000 in
set_option maxHeartbeats 4000000 in
theorem enter_c (B : Nat) (t : List Int) (v : Value) (s : Bool) (ds : List Int) (e : Int) (more : Bool) (f : Int) (k : Nat) (M : Int) (w : World) (hB : B < w.heap.size) (hc : Cols w B t) (ht : t.length = 430) (hv : Amt w v s ds e more) (hi : InR 10 ds) (hk : e + 222 = (k : Int)) (hkl : k + ds.length ≤ 430)
    (hf : -9 ≤ f) (hf2 : f ≤ 9) (hM : TB M t) (hM0 : 0 ≤ M) (hM1 : M ≤ 1000000000) :
    Calls Tryz.prog 173 #[.pointer (some ⟨B, 0, none⟩), v, .int .i64 f] w fun en w' => en = .returned (.tuple #[]) ∧ ∃ t', Cols w' B t' ∧ t'.length = 430 ∧ val 10 t' = val 10 t + (if s then -f else f) * vd ds * 10 ^ k ∧ TB (M + 81 * (ds.length : Int)) t' ∧ Kb B w w' := by
  obtain ⟨A, c, rfl, hc1, hc2, hr⟩ := hv
  obtain ⟨L, hL⟩ : ∃ L, ds.length = L := ⟨_, rfl⟩
  rw [hL] at hkl hc1 ⊢
  have HL := Lib.hid hL
  obtain ⟨W, hW, k0, hbel, hsz⟩ : ∃ W, w.alloc (.cells #[.bool s, .slice A L c, .int .i64 e, .bool more] 95) = W ∧ W.heap[w.heap.size]? = some (.cells #[.bool s, .slice A L c, .int .i64 e, .bool more] 95 (0, 0)) ∧ Below w.heap.size w W ∧ W.heap.size = w.heap.size + 1 :=
    ⟨_, rfl, heap_alloc_new _ _, (Below.refl _ _).alloc (Nat.le_refl _) _, by simp⟩
  have c00 := cell_of_heap k0 0; have c01 := cell_of_heap k0 1; have c02 := cell_of_heap k0 2
  simp at c00 c01 c02
  have HCO : Hid (Cols W B t) := heapB hbel hc
  have HR := Lib.hid (hr.below hbel)
  have HK0 := Lib.hid k0; have HKB : Hid (Kb B w W) := Kb.of hbel
  have HT := Lib.hid ht; have HI := Lib.hid hi; have HM := Lib.hid hM
  obtain ⟨F, hF⟩ : ∃ F : Int, (if s then -f else f) = F := ⟨_, rfl⟩
  rw [hF]
  have hF1 : -9 ≤ F := by rw [← hF]; split <;> omega
  have hF2 : F ≤ 9 := by rw [← hF]; split <;> omega
  have HF := Lib.hid hF
  have HK := Lib.hid hk
  have hBW : B < w.heap.size := hB
  clear k0 hbel hr hc ht hi hM hF hL
  go_enter Tryz.func173, Tryz.ntmps173
  go_upto_if 10 with fail
  go_cut [2] from 11 to 12 (fun v wx => v = .int .i64 F ∧ wx = W)
  case first =>
    cases s
    · go_wp2_with fail
      go_meet
      exact ⟨by rw [← HF.out]; rfl, rfl⟩
    · go_wp2_with fail
      go_meet
      exact ⟨by rw [← HF.out]; rfl, rfl⟩
  case rest =>
    obtain ⟨rfl, rfl⟩ := hcut
    go_wp2_with fail
    go_loopg [16] L (fun g iv wr => ∃ (i : Nat) (t' : List Int), iv = .int .i64 (i : Int) ∧ i + g = L ∧ Hid (Cols wr B t' ∧ t'.length = 430) ∧ Hid (val 10 t' = val 10 t + F * vd (ds.take i) * 10 ^ (k + (L - i))) ∧ Hid (TB (M + 81 * (i : Int)) t') ∧ Hid (Kb B wc wr))
    case atStart => exact ⟨0, t, rfl, by omega, ⟨HCO.out, HT.out⟩, by show _ = _; simp [vd], by show TB _ _; have := HM.out; simpa using this, Kb.refl _ _⟩
    case round =>
      obtain ⟨i, t', rfl, hi, HC, HV, HTB, HW⟩ := hrel
      have HI2 := Lib.hid hi
      by_cases hiL : i < L
      · obtain ⟨a, rfl, hcell⟩ := (HW.out.row HCO.out HR.out) i (by rw [HL.out]; exact hiL)
        have hin := HI.out.at_ (by decide) i
        rw [List.getD_eq_getElem?_getD] at hin
        obtain ⟨d, hd⟩ : ∃ d, ds[i]?.getD 0 = d := ⟨_, rfl⟩
        rw [hd] at hcell hin
        have HD := Lib.hid hd
        have hin0 := hin.1
        have hin9 : d < 10 := hin.2
        obtain ⟨j, hj⟩ : ∃ j, k + (L - 1 - i) = j := ⟨_, rfl⟩
        have hj430 : j < 430 := by omega
        have HJ := Lib.hid hj
        have hje : e + 222 + (L : Int) - 1 - (i : Int) = (j : Int) := by have := HK.out; omega
        have hje2 : e - -222 + (L : Int) - 1 - (i : Int) = (j : Int) := by have := HK.out; omega
        have j0 : (0 : Int) ≤ (j : Int) := by omega
        have j1 : (j : Int) < 430 := by omega
        have hcj := HC.out.1.cell j (by rw [HC.out.2]; exact hj430)
        have hfj := HC.out.1.free j
        have htb := HTB.out.at_ (by omega) j
        obtain ⟨x, hx⟩ : ∃ x, t'[j]?.getD 0 = x := ⟨_, rfl⟩
        rw [hx] at hcj htb
        have HX := Lib.hid hx
        have htb0 := htb.1; have htb1 := htb.2
        have d00 := cell_of_heap (HW.out.heap HK0.out (by omega)) 0; have d01 := cell_of_heap (HW.out.heap HK0.out (by omega)) 1; have d02 := cell_of_heap (HW.out.heap HK0.out (by omega)) 2
        simp at d00 d01 d02
        have hfd1 : F * d ≤ 81 := by
          have h1 := Int.mul_le_mul_of_nonneg_right hF2 hin0
          omega
        have hfd0 : -81 ≤ F * d := by
          have h1 := Int.mul_le_mul_of_nonneg_right hF1 hin0
          omega
        have hwr : IntKind.i64.wrap d = d := IntWalk.i64_in _ (by omega)
        have hiL2 : (i : Int) < (L : Int) := by omega
        have hw1 : IntKind.i64.wrap (e - -222) = (k : Int) := by rw [show e - -222 = (k : Int) by omega]; exact IntWalk.i64_in _ (by omega)
        have hw2 : IntKind.i64.wrap ((k : Int) + (L : Int)) = (k : Int) + (L : Int) := IntWalk.i64_in _ (by omega)
        have hw3 : IntKind.i64.wrap ((k : Int) + (L : Int) - 1) = (k : Int) + (L : Int) - 1 := IntWalk.i64_in _ (by omega)
        have hw4 : IntKind.i64.wrap ((k : Int) + (L : Int) - 1 - (i : Int)) = (j : Int) := by rw [show (k : Int) + (L : Int) - 1 - (i : Int) = (j : Int) by omega]; exact IntWalk.i64_in _ (by omega)
        have hw5 : IntKind.i64.wrap (F * d) = F * d := IntWalk.i64_in _ (by omega)
        have hw6 : IntKind.i64.wrap (x + F * d) = x + F * d := IntWalk.i64_in _ (by omega)
        have HE := Lib.hid hje
        clear hi hj hx hd hin htb hje hje2
        go_wp2_with fail
        go_region
        go_wp2_with fail
        go_roundg (gk - 1)
        case measure => have := HI2.out; omega
        case rel =>
          refine ⟨i + 1, t'.set j (x + F * d), by go_num, by have := HI2.out; omega, ⟨(HC.out.1.put j _).drew, by rw [List.length_set]; exact HC.out.2⟩, ?_, ?_, (HW.out.trans (Kb.set B j wr _)).trans (Kb.drew _ _)⟩
          · have h1 := enter_step (t := t') (ds := ds) (k := k) (V0 := val 10 t) (f := F) HL.out hiL HD.out (by rw [HJ.out, HC.out.2]; exact hj430) HV.out
            rw [HJ.out, HX.out] at h1
            exact h1
          · exact HTB.out.set (by omega) j (by omega) (by omega)
      · obtain rfl : i = L := by omega
        clear hi
        go_wp2_with fail
        go_end0
        refine ⟨rfl, t', HC.out.1, HC.out.2, ?_, HTB.out, HKB.out.trans HW.out⟩
        have h1 := HV.out
        rw [Nat.sub_self, Nat.add_zero, List.take_of_length_le (by rw [HL.out]; exact Nat.le_refl _)] at h1
        exact h1

theorem cols_set {u t : List Int} {i : Nat} (hu : u.length = i) (hi : i < t.length) (y : Int) : (u ++ t.drop i).set i y = (u ++ [y]) ++ t.drop (i + 1) := by
  rw [List.set_append_right _ _ (by omega), hu, Nat.sub_self, List.drop_eq_getElem_cons hi, List.set_cons_zero, List.append_assoc]; rfl
theorem cols_at {u t : List Int} {i : Nat} (hu : u.length = i) (hi : i < t.length) : (u ++ t.drop i)[i]?.getD 0 = t[i]?.getD 0 := by
  rw [List.getElem?_append_right (by omega), hu, Nat.sub_self, List.getElem?_drop, Nat.add_zero]
/-- Go's division by 10, mended. -/
theorem floor10 (n : Int) : (n.tmod 10 < 0 → n.fdiv 10 = n.tdiv 10 - 1) ∧ (¬ n.tmod 10 < 0 → n.fdiv 10 = n.tdiv 10) := by
  have h1 := Int.mul_tdiv_add_tmod n 10
  have h2 := Int.mul_fdiv_add_fmod n 10
  have h3 : 0 ≤ n.fmod 10 := Int.fmod_nonneg_of_pos _ (by decide)
  have h4 : n.fmod 10 < 10 := Int.fmod_lt_of_pos _ (by decide)
  have h5 : -10 < n.tmod 10 ∧ n.tmod 10 < 10 := by
    rcases Int.le_total 0 n with h | h
    · obtain ⟨k, rfl⟩ := Int.eq_ofNat_of_zero_le h
      have : ((k : Int).tmod 10) = ((k % 10 : Nat) : Int) := rfl
      rw [this]; omega
    · obtain ⟨k, hk⟩ := Int.eq_ofNat_of_zero_le (show 0 ≤ -n by omega)
      obtain rfl : n = -(k : Int) := by omega
      have : ((k : Int).tmod 10) = ((k % 10 : Nat) : Int) := rfl
      rw [Int.neg_tmod, this]; omega
  constructor <;> intro <;> omega

set_option maxRecDepth 100000 in
set_option maxHeartbeats 4000000 in
theorem carry_c (B : Nat) (t : List Int) (M : Int) (w : World) (hB : B < w.heap.size) (hc : Cols w B t) (ht : t.length = 430) (hM : TB M t) (hM0 : 0 ≤ M) (hM1 : M ≤ 1000000000000) :
    Calls Tryz.prog 214 #[.pointer (some ⟨B, 0, none⟩)] w fun en w' => ∃ (o : Int) (u : List Int), en = .returned (.int .i64 o) ∧ Cols w' B u ∧ u.length = 430 ∧ InR 10 u ∧ val 10 u + 10 ^ 430 * o = val 10 t ∧ Kb B w w' := by
  have HC0 := Lib.hid hc; have HT := Lib.hid ht; have HM := Lib.hid hM
  clear hc ht hM
  go_enter Tryz.func214, Tryz.ntmps214
  go_wp2_with fail
  go_loopg [3, 6] 430 (fun g ov iv wr => ∃ (i : Nat) (o : Int) (u : List Int), iv = .int .i64 (i : Int) ∧ ov = .int .i64 o ∧ i + g = 430 ∧ Hid (u.length = i) ∧ Hid (InR 10 u) ∧ Hid (val 10 u + 10 ^ i * (o + val 10 (t.drop i)) = val 10 t) ∧ Hid (Cols wr B (u ++ t.drop i)) ∧ -(M + 1) ≤ o ∧ o ≤ M + 1 ∧ Hid (Kb B w wr))
  case atStart => exact ⟨0, 0, [], rfl, rfl, by omega, rfl, InR.nil 10, by show _ = _; simp [val], HC0.out, by omega, by omega, Kb.refl _ _⟩
  case round =>
    obtain ⟨i, o, u, rfl, rfl, hi, HU, HIU, HV, HC, ho1, ho2, HW⟩ := hrel
    have HI := Lib.hid hi
    by_cases hi4 : i < 430
    · have hit : i < t.length := by rw [HT.out]; exact hi4
      have hcj := HC.out.cell i (by rw [List.length_append, List.length_drop, HU.out]; omega)
      rw [cols_at HU.out hit] at hcj
      have hfj := HC.out.free i
      have htb := HM.out.at_ hM0 i
      have HCS := Lib.hid (fun n (hn : n = t[i]?.getD 0 + o) => carry_step hit HU.out HIU.out HV.out hn)
      obtain ⟨x, hx⟩ : ∃ x, t[i]?.getD 0 = x := ⟨_, rfl⟩
      rw [hx] at hcj htb HCS
      have htb0 := htb.1; have htb1 := htb.2
      obtain ⟨n, hn⟩ : ∃ n, x + o = n := ⟨_, rfl⟩
      have HS := HCS.out n hn.symm
      obtain ⟨f1, f2⟩ := floor10 n
      have hqr := Int.mul_tdiv_add_tmod n 10
      have hfm := Int.mul_fdiv_add_fmod n 10
      have hf0 : 0 ≤ n.fmod 10 := Int.fmod_nonneg_of_pos _ (by decide)
      have hf9 : n.fmod 10 < 10 := Int.fmod_lt_of_pos _ (by decide)
      obtain ⟨Q, hQ⟩ : ∃ Q, n.fdiv 10 = Q := ⟨_, rfl⟩
      rw [hQ] at HS f1 f2 hfm
      obtain ⟨q, hq⟩ : ∃ q, n.tdiv 10 = q := ⟨_, rfl⟩
      rw [hq] at f1 f2 hqr
      have hn1 : -(2 * M + 1) ≤ n := by omega
      have hn2 : n ≤ 2 * M + 1 := by omega
      have hQ1 : -(M + 1) ≤ Q := by omega
      have hQ2 : Q ≤ M + 1 := by omega
      have HST := Lib.hid HS
      have HN := Lib.hid hn
      have j0 : (0 : Int) ≤ (i : Int) := by omega
      have j1 : (i : Int) < 430 := by omega
      by_cases hneg : n.tmod 10 < 0
      · have hqQ : q - 1 = Q := (f1 hneg).symm
        have hq1 : -(M + 1) ≤ q := by omega
        have hq2 : q ≤ M + 2 := by omega
        have hdec : decide (n.tmod 10 < 0) = true := decide_eq_true hneg
        clear f1 f2 hqr hfm hf0 hf9 HS hi htb hx hQ HCS
        go_wp2_with fail
        go_roundg (gk - 1)
        case measure => have := HI.out; omega
        case rel =>
          refine ⟨i + 1, Q, u ++ [n - 10 * Q], by go_num, rfl, by have := HI.out; omega, by show _ = _; rw [List.length_append, HU.out]; rfl, HST.out.1, HST.out.2, ?_, hQ1, hQ2, HW.out.trans (Kb.set B i wr _)⟩
          have h1 := HC.out.put i (n - 10 * Q)
          rw [cols_set HU.out hit] at h1
          exact h1
      · have hqQ : q = Q := (f2 hneg).symm
        subst hqQ
        have hdec : decide (n.tmod 10 < 0) = false := decide_eq_false hneg
        clear f1 f2 hqr hfm hf0 hf9 HS hi htb hx hQ HCS
        go_wp2_with fail
        go_roundg (gk - 1)
        case measure => have := HI.out; omega
        case rel =>
          refine ⟨i + 1, q, u ++ [n - 10 * q], by go_num, rfl, by have := HI.out; omega, by show _ = _; rw [List.length_append, HU.out]; rfl, HST.out.1, HST.out.2, ?_, hQ1, hQ2, HW.out.trans (Kb.set B i wr _)⟩
          have h1 := HC.out.put i (n - 10 * q)
          rw [cols_set HU.out hit] at h1
          exact h1
    · obtain rfl : i = 430 := by omega
      clear hi
      go_wp2_with fail
      go_ret
      refine ⟨o, u, rfl, ?_, HU.out, HIU.out, carry_end HU.out HT.out HIU.out HV.out, HW.out⟩
      have h1 := HC.out
      rw [List.drop_eq_nil_of_le (by rw [HT.out]; exact Nat.le_refl _), List.append_nil] at h1
      exact h1
end Go.Proofs.YtekbfommnmikbaaGreatDoor
/- Package real: the sum of the columns. -/
namespace Go.Proofs.YtekbfommnmikbaaGreatDoor
set_option linter.unusedVariables false
set_option linter.unusedSimpArgs false
open Go.RowKit Go.Shelf
attribute [local go_sem] Oper.semAt_some

set_option maxRecDepth 100000 in
set_option maxHeartbeats 2000000 in
/-- The closure: for every loop body that keeps what it reads. -/
theorem back1_in (F : Fence) (n : Nat) (h7 : F.fn 236) (hro : F.round = none) (hn : 1 ≤ n) (l Bs n₀ : Nat) (A : Option Addr) (cap : Nat) (zs : List Int) (hreach : zs.length ≤ 9223372036854775807) (J Jx : List (Ix zs.length) → World → Prop)
    (W : World) (hA : ∀ a, A = some a → zs.length = 0 ∨ a.block < n₀) (hY : ∀ pre x W1, J pre W1 → pre.length < zs.length → YieldAt F (n - 1) Tryz.prog l #[.int .i64 ((x.1 : Nat) : Int), .int .i64 (zs[x.1]?.getD 0)] W1 fun e W' =>
      (e = .returned (.bool true) ∧ J (pre ++ [x]) W' ∧ Kd n₀ Bs W1 W') ∨ (e = .returned (.bool false) ∧ Jx (pre ++ [x]) W'))
    (hBs : W.cell? ⟨Bs, 0, none⟩ = some (.slice A zs.length cap)) (hc : Row .i64 W A zs) (h0 : J [] W) :
    CallsIn F n Tryz.prog 236 #[.func (.yield l) #[] #[], .pointer (some ⟨Bs, 0, none⟩)] W fun e W' => (∃ v, e = .returned v) ∧
      ((∃ ys, ys = dn zs.length zs.length ∧ J ys W') ∨ (∃ pre, (∃ k, k < zs.length ∧ pre = dn zs.length (k + 1)) ∧ Jx pre W')) := by
  refine callsIn_of_wp Tryz.func236 rfl h7 ?_ hro
  simp only [Tryz.ntmps236, List.size_toArray, List.length_cons, List.length_nil, Nat.reduceAdd, Nat.reduceSub, Array.replicate_succ, Array.replicate_zero, List.push_toArray, List.append_toArray, List.nil_append, List.cons_append]
  have HC := Lib.hid hc
  clear hc
  gi_wp2
  have HBs := Lib.hid hBs
  clear hBs
  gi_loopw [3] (fun i wr => ∃ k : Nat, k ≤ zs.length ∧ i = .int .i64 ((zs.length : Int) - 1 - k) ∧ J (dn zs.length k) wr ∧ Hid (Kd n₀ Bs W wr))
    (fun i _ => (intOf i + 1).toNat)
  case atStart => exact ⟨0, Nat.zero_le _, by simp, by rw [dn_zero]; exact h0, ⟨Below.refl _ _, rfl⟩⟩
  case round =>
    obtain ⟨k, hk, rfl, hJs, HX⟩ := hrel
    have hbx : wr.cell? ⟨Bs, 0, none⟩ = some (.slice A zs.length cap) := (World.cell?_of_block (w := W) (a := ⟨Bs, 0, none⟩) HX.out.2).trans HBs.out
    by_cases hlt : k < zs.length
    · obtain ⟨j, hj⟩ : ∃ j, zs.length = k + j + 1 := ⟨zs.length - k - 1, by omega⟩
      have HJ := Lib.hid hj
      have hjl : j < zs.length := by omega
      have ej : ((zs.length : Int) - 1 - k) = (j : Int) := by omega
      rw [ej]
      obtain ⟨a, rfl, hcell⟩ := HC.out j (by omega)
      have hcj : wr.cell? (a.add j) = some (.int .i64 (zs[j]?.getD 0)) := (HX.out.1.cell (by rw [add_block]; exact (hA a rfl).resolve_left (by omega))).trans hcell
      clear hcell
      obtain ⟨fn, tmps, assign, body, hy, hR⟩ := hY _ ⟨j, hjl⟩ wr hJs (by rw [dn_length _ _ hk]; exact hlt)
      have e5 : dn zs.length (k + 1) = dn zs.length k ++ [⟨j, hjl⟩] := by rw [dn_succ _ _ hlt]; congr 3; omega
      have HE := Lib.hid e5
      dsimp only at hy
      clear hj e5 ej
      generalize hz : zs[j]?.getD 0 = z at *
      have HZ := Lib.hid hz
      clear hz
      gi_wp2
      refine hR.mono ?_
      rintro e W3 (⟨rfl, hJ3, hk3⟩ | ⟨rfl, hJx3⟩)
      · gi_wp2
        go_roundw
        case rel => exact ⟨k + 1, by omega, by have := HJ.out; first | (simp; done) | (simp; omega), by rw [HE.out]; exact hJ3, HX.out.t hk3⟩
        case measure => first | (simp [intOf]; done) | (simp [intOf]; have := HJ.out; omega)
      · gi_wp2
        refine bodyPost_ret (results_none rfl _ _ _) rfl ?_
        exact ⟨⟨_, rfl⟩, .inr ⟨_, ⟨k, by omega, HE.out.symm⟩, hJx3⟩⟩
    · obtain rfl : k = zs.length := by omega
      gi_wp2
      go_end0
      exact ⟨⟨_, rfl⟩, .inl ⟨_, rfl, hJs⟩⟩

set_option maxHeartbeats 1000000 in
/-- down: the slice value is boxed; the function value captures the box. -/
theorem back_in (F : Fence) (n : Nat) (h5 : F.fn 215) (hro : F.round = none) (a : Option Addr) (len cap : Nat) (w : World) :
    CallsIn F n Tryz.prog 215 #[.slice a len cap] w fun e w' => e = .returned (.func (.func 236) #[] #[.pointer (some ⟨w.heap.size, 0, none⟩)]) ∧ w' = w.alloc (.cells #[.slice a len cap] 55) := by
  refine callsIn_of_wp Tryz.func215 rfl h5 ?_ hro
  simp only [Tryz.ntmps215, List.size_toArray, List.length_cons, List.length_nil, Nat.reduceAdd, Nat.reduceSub, Array.replicate_succ, Array.replicate_zero, List.push_toArray, List.append_toArray, List.nil_append, List.cons_append]
  gi_wp2
  go_ret
  exact ⟨rfl, rfl⟩

theorem back_stops (F : Fence) (n : Nat) (h7 : F.fn 236) (hro : F.round = none) (hn : 1 ≤ n) (Bs n₀ : Nat) (A : Option Addr) (cap : Nat) (zs : List Int) (hreach : zs.length ≤ 9223372036854775807) (w : World) (hBs : Bs < w.heap.size)
    (hA : ∀ a, A = some a → zs.length = 0 ∨ a.block < n₀) (hn₀ : n₀ ≤ w.heap.size) (hc : w.cell? ⟨Bs, 0, none⟩ = some (.slice A zs.length cap)) (hI : Row .i64 w A zs) :
    SeqStopsK F n Tryz.prog 236 #[.pointer (some ⟨Bs, 0, none⟩)] (fun x : Ix zs.length => #[Value.int .i64 ((x.1 : Nat) : Int), Value.int .i64 (zs[x.1]?.getD 0)]) (Kd n₀ Bs) (fun ys => ys = dn zs.length zs.length) (fun pre => ∃ k, k < zs.length ∧ pre = dn zs.length (k + 1)) zs.length w := fun l J Jx W hW _ _ hY h0 =>
  back1_in F n h7 hro hn l Bs n₀ A cap zs hreach J Jx W hA hY ((hW.cell (p := ⟨Bs, 0, none⟩) hBs).trans hc) (hI.below hW) h0


theorem dn_rev (u : List Int) : ((dn u.length u.length).map fun x => Value.int .u8 (u[x.1]?.getD 0)) = u.reverse.map (Value.int .u8) := by
  apply List.ext_getElem
  · rw [List.length_map, dn_length _ _ (Nat.le_refl _), List.length_map, List.length_reverse]
  · intro i h1 h2
    have hi : i < u.length := by simpa using h2
    rw [List.getElem_map, List.getElem_map, List.getElem_reverse]
    simp only [dn, List.getElem_map, List.getElem_attach, List.getElem_range]
    rw [List.getElem?_eq_getElem (by omega)]; rfl
theorem heapKept {W W' : World} {b : Nat} {cs : Array Value} {t : TypeId} {fz : Nat × Nat} {row : Option Nat} (h : W.heap[b]? = some (.cells cs t fz)) (hg : W.grownBy W' row) (hr : ∀ r, row = some r → ∃ o : Obj, W.heap[r]? = some o ∧ o.isCells = false) : W'.heap[b]? = some (.cells cs t fz) := by
  rw [hg.block b (Array.getElem?_eq_some_iff.1 h).1 ?_]
  · exact h
  · intro e'
    obtain ⟨o, ho, hc⟩ := hr b e'.symm
    rw [h] at ho; cases ho; cases hc
theorem Kb.trans' {B n : Nat} {a b c : World} (h : Kb B a b) (k : Below n b c) (hn : a.heap.size ≤ n) : Kb B a c := ⟨k.os.trans h.os, k.tape.trans h.tape, k.output.trans h.output, Nat.le_trans h.size k.size, fun g hg hB => (k.block g (by omega)).trans (h.block g hg hB)⟩
/-- The first i columns turned around in sign. -/
def negAt (u : List Int) (i : Nat) : List Int := (u.take i).map (fun x => -x) ++ u.drop i
theorem negAt_zero (u : List Int) : negAt u 0 = u := by simp [negAt]
theorem negAt_all {u : List Int} {L : Nat} (h : u.length = L) : negAt u L = u.map fun x => -x := by
  unfold negAt; rw [List.take_of_length_le (by omega), List.drop_eq_nil_of_le (by omega), List.append_nil]
theorem negAt_length {u : List Int} {L i : Nat} (h : u.length = L) (hi : i ≤ L) : (negAt u i).length = L := by simp [negAt]; omega
theorem negAt_at {u : List Int} {i : Nat} (hi : i < u.length) : (negAt u i)[i]?.getD 0 = u[i]?.getD 0 := by
  unfold negAt
  exact cols_at (by rw [List.length_map, List.length_take]; omega) hi
theorem negAt_set {u : List Int} {i : Nat} (hi : i < u.length) {x : Int} (hx : u[i]?.getD 0 = x) : (negAt u i).set i (-x) = negAt u (i + 1) := by
  unfold negAt
  rw [cols_set (by rw [List.length_map, List.length_take]; omega) hi, drop_take hi, hx, List.map_append]; rfl
theorem tb_digits {u : List Int} (h : InR 10 u) : TB 9 (u.map fun x => -x) := fun y hy => by
  obtain ⟨x, hx, rfl⟩ := List.mem_map.1 hy
  have := h x hx
  have h2 : x < 10 := this.2
  omega

set_option maxRecDepth 100000 in
set_option maxHeartbeats 4000000 in
theorem total_in (B : Nat) (t : List Int) (M : Int) (w : World) (hB : B < w.heap.size) (hc : Cols w B t) (ht : t.length = 430) (hM : TB M t) (hM0 : 0 ≤ M) (hM1 : M ≤ 1000000000000) (hV0 : -(10 ^ 430) < val 10 t) (hV1 : val 10 t < 10 ^ 430) :
    CallsIn Fence.wide 6 Tryz.prog 174 #[.pointer (some ⟨B, 0, none⟩)] w fun en w' => ∃ v ds, en = .returned v ∧ Amt w' v (decide (val 10 t < 0)) ds (-222) false ∧ InR 10 ds ∧ vd ds = ((val 10 t).natAbs : Int) ∧ ds.length = 430 ∧ Kb B w w' := by
  have HC0 := Lib.hid hc; have HT := Lib.hid ht; have HM := Lib.hid hM; have HV := Lib.hid (And.intro hV0 hV1)
  clear hc ht hM hV0 hV1
  refine callsIn_of_wp_marks Tryz.func174 rfl trivial ?_ rfl
  simp only [Tryz.ntmps174, List.size_toArray, List.length_cons, List.length_nil, Nat.reduceAdd, Nat.reduceSub, Array.replicate_succ, Array.replicate_zero, List.push_toArray, List.append_toArray, List.nil_append, List.cons_append]
  obtain ⟨W, hW, k0, k1, hbel, hsz⟩ := bx2h w #[.bool false, .slice none 0 0, .int .i64 0, .bool false] #[.bool false, .slice none 0 0, .int .i64 (-222), .bool false] 95 95
  have HK0 := Lib.hid k0; have HK1 := Lib.hid k1; have HBEL := Lib.hid hbel; have HSZ := Lib.hid hsz
  have HC1 : Hid (Cols W B t) := heapB hbel HC0.out
  have hBW : B < W.heap.size := by omega
  have HWD := Lib.hid hW
  obtain ⟨s, hs⟩ : ∃ s, decide (val 10 t < 0) = s := ⟨_, rfl⟩
  rw [hs]
  have HS := Lib.hid hs
  clear k0 k1 hbel hsz hW hs
  gi_upto_region 2 with fail
  rw [HWD.out]
  gi_upto_if 10 with (refine ⟨trivial, ?_⟩; gi_at_call 214; refine (callsIn_wide.2 (carry_c B t M _ hBW HC1.out HT.out HM.out hM0 hM1)).mono ?_; rintro en W2 ⟨o, u, rfl, hcu, hlu, hiu, hvu, hkb⟩; have HCU := Lib.hid hcu; have HLU := Lib.hid hlu; have HIU := Lib.hid hiu; have HVU := Lib.hid hvu; have HKB := Lib.hid hkb; clear hcu hlu hiu hvu hkb)
  have HA2 : Hid (W2.heap[w.heap.size + 1]? = _) := HKB.out.heap HK1.out (by omega)
  have HR2 : Hid (W2.heap[w.heap.size]? = _) := HKB.out.heap HK0.out (by omega)
  have HKW : Hid (Kb B w W2) := (Kb.of HBEL.out).trans HKB.out
  have hsz2 : w.heap.size + 2 ≤ W2.heap.size := by have := HKB.out.size; have := HSZ.out; omega
  gi_cut [4] from 11 (fun v4 wx => ∃ u', Hid (Cols wx B u') ∧ Hid (u'.length = 430 ∧ InR 10 u' ∧ val 10 u' = ((val 10 t).natAbs : Int)) ∧ Hid (wx.heap[w.heap.size + 1]? = some (.cells #[.bool s, .slice none 0 0, .int .i64 (-222), .bool false] 95 (0, 0))) ∧ Hid (wx.heap[w.heap.size]? = some (.cells #[.bool false, .slice none 0 0, .int .i64 0, .bool false] 95 (0, 0))) ∧ Hid (Kb B w wx) ∧ Hid (w.heap.size + 2 ≤ wx.heap.size))
  case first =>
    have HCO := Lib.hid (carry_over HLU.out HIU.out HVU.out)
    by_cases hV : 0 ≤ val 10 t
    · obtain ⟨rfl, hv⟩ := HCO.out.1 hV HV.out.2
      have HVV : Hid (val 10 u = ((val 10 t).natAbs : Int)) := by show _ = _; rw [hv]; omega
      obtain rfl : s = false := by rw [← HS.out]; simpa using hV
      clear hV hv
      gi_wp2_with fail
      gi_meet
      case rel => exact ⟨u, HCU.out, ⟨HLU.out, HIU.out, HVV.out⟩, HA2.out, HR2.out, HKW.out, hsz2⟩
    · obtain ⟨rfl, hv⟩ := HCO.out.2 (by omega) (Int.le_of_lt HV.out.1)
      have HVV := Lib.hid hv
      obtain rfl : s = true := by rw [← HS.out]; simpa using hV
      have hVn : val 10 t < 0 := by omega
      have HVN := Lib.hid hVn
      have c0 := cell_of_heap HA2.out 0
      have f0 := free_of_heap HA2.out 0
      simp at c0
      clear hV hv hVn
      gi_wp2_with fail
      have HCU3 : Hid (Cols (W2.setCell ⟨w.heap.size + 1, 0, none⟩ (.bool true)) B u) := (Below.heap_setCell _ _ _ _ (by simp; omega)).trans HCU.out
      have hra := putB HA2.out 0 (.bool true)
      simp at hra
      have HA3 := Lib.hid hra
      have HR3 : Hid ((W2.setCell ⟨w.heap.size + 1, 0, none⟩ (.bool true)).heap[w.heap.size]? = _) := (Below.heap_setCell _ _ _ _ (by simp)).trans HR2.out
      have HK3 : Hid (Kb B w (W2.setCell ⟨w.heap.size + 1, 0, none⟩ (.bool true))) := by
        have h1 := (Below.refl (w.heap.size + 1) W2).setCell (p := ⟨w.heap.size + 1, 0, none⟩) (Nat.le_refl _) (.bool true)
        exact HKW.out.trans' h1 (by omega)
      have hsz3 : w.heap.size + 2 ≤ (W2.setCell ⟨w.heap.size + 1, 0, none⟩ (.bool true)).heap.size := by simpa using hsz2
      clear hra c0 f0
      obtain ⟨W3, hW3⟩ : ∃ W3, W2.setCell ⟨w.heap.size + 1, 0, none⟩ (.bool true) = W3 := ⟨_, rfl⟩
      rw [hW3] at HCU3 HA3 HR3 HK3 hsz3 ⊢
      clear hW3
      gi_loopg [4, 13] 430 (fun g v4 iv wr => ∃ i : Nat, iv = .int .i64 (i : Int) ∧ i + g = 430 ∧ Hid (Cols wr B (negAt u i)) ∧ Hid (Kb B W3 wr))
      case atStart => exact ⟨0, rfl, by omega, by show Cols _ _ _; rw [negAt_zero]; exact HCU3.out, Kb.refl _ _⟩
      case round =>
        obtain ⟨i, rfl, hi, HC, HW⟩ := hrel
        have HI := Lib.hid hi
        by_cases hi4 : i < 430
        · have hiu : i < u.length := by rw [HLU.out]; exact hi4
          have hcj := HC.out.cell i (by rw [negAt_length HLU.out (by omega)]; exact hi4)
          rw [negAt_at hiu] at hcj
          have hfj := HC.out.free i
          have hin := HIU.out.at_ (by decide) i
          rw [List.getD_eq_getElem?_getD] at hin
          obtain ⟨x, hx⟩ : ∃ x, u[i]?.getD 0 = x := ⟨_, rfl⟩
          rw [hx] at hcj hin
          have HX := Lib.hid hx
          have hin0 := hin.1
          have hin9 : x < 10 := hin.2
          have j0 : (0 : Int) ≤ (i : Int) := by omega
          have j1 : (i : Int) < 430 := by omega
          have hwn : IntKind.i64.wrap (-x) = -x := IntWalk.i64_in _ (by omega)
          clear hi hx hin
          gi_wp2_with fail
          gi_region
          gi_wp2_with fail
          go_roundg (gk - 1)
          case measure => have := HI.out; omega
          case rel =>
            refine ⟨i + 1, by go_num, by have := HI.out; omega, ?_, (HW.out.trans (Kb.set B i wr _)).trans (Kb.drew _ _)⟩
            have h1 := (HC.out.put i (-x)).drew
            rw [negAt_set hiu HX.out] at h1
            exact h1
        · obtain rfl : i = 430 := by omega
          clear hi
          have HC2 : Hid (Cols wr B (u.map fun x => -x)) := by show Cols _ _ _; rw [← negAt_all HLU.out]; exact HC.out
          have HL2 : Hid ((u.map fun x => -x).length = 430) := by show _ = _; rw [List.length_map]; exact HLU.out
          have HTB2 := Lib.hid (tb_digits HIU.out)
          have HVN2 : Hid (val 10 (u.map fun x => -x) = -val 10 u) := val_neg 10 u
          have hBr : B < wr.heap.size := Nat.lt_of_lt_of_le (by omega) HW.out.size
          gi_wp2_with (refine ⟨trivial, ?_⟩; gi_at_call 214; refine (callsIn_wide.2 (carry_c B _ 9 _ hBr HC2.out HL2.out HTB2.out (by decide) (by decide))).mono ?_; rintro en W4 ⟨o, u4, rfl, hcu, hlu, hiu, hvu, hkb⟩; rw [HVN2.out] at hvu; have HCU4 := Lib.hid hcu; have HLU4 := Lib.hid hlu; have HIU4 := Lib.hid hiu; have HVU4 := Lib.hid hvu; have HKB4 := Lib.hid hkb; clear hcu hlu hiu hvu hkb)
          gi_meet
          case rel =>
            have HX := HW.out.trans HKB4.out
            refine ⟨u4, HCU4.out, ⟨HLU4.out, HIU4.out, ?_⟩, HX.heap HA3.out (by omega), HX.heap HR3.out (by omega), HK3.out.trans HX, Nat.le_trans hsz3 HX.size⟩
            have hv2 := HVV.out
            have hv3 := HV.out.1
            have hn := HVN.out
            have h4 := (carry_over HLU4.out HIU4.out HVU4.out).2
            have hvl := val_lt HIU.out
            rw [HLU.out] at hvl
            have hp : (0 : Int) < 10 ^ 430 := Int.pow_pos (by omega)
            have hvl' : val 10 u < 10 ^ 430 := hvl
            generalize (10 : Int) ^ 430 = P at *
            obtain ⟨-, h5⟩ := h4 (by omega) (by omega)
            omega
  case rest =>
    obtain ⟨u, HCU, HUU, HA, HR, HKB, HSZ2⟩ := hcut
    gi_wp2_with (refine ⟨trivial, ?_⟩; gi_at_call 215; refine (back_in Fence.wide (6 - 1) trivial rfl _ _ _ _).mono ?_; rintro e w' ⟨rfl, rfl⟩)
    have hKW5 : Below wc.heap.size wc (wc.alloc (.cells #[.slice (some ⟨B, 0, none⟩) 430 430] 55)) := (Below.refl _ _).alloc (Nat.le_refl _) _
    have hbx5 : (wc.alloc (.cells #[.slice (some ⟨B, 0, none⟩) 430 430] 55)).heap[wc.heap.size]? = some (.cells #[.slice (some ⟨B, 0, none⟩) 430 430] 55 (0, 0)) := heap_alloc_new _ _
    have hs5 : (wc.alloc (.cells #[.slice (some ⟨B, 0, none⟩) 430 430] 55)).heap.size = wc.heap.size + 1 := by simp
    obtain ⟨W5, hW5⟩ : ∃ W5, wc.alloc (.cells #[.slice (some ⟨B, 0, none⟩) 430 430] 55) = W5 := ⟨_, rfl⟩
    rw [hW5] at hKW5 hbx5 hs5 ⊢
    have HC5 : Hid (Cols W5 B u) := heapB hKW5 HCU.out
    have HA5 := Lib.hid (heapB hKW5 HA.out); have HR5 := Lib.hid (heapB hKW5 HR.out)
    have HKB5 : Hid (Kb B w W5) := HKB.out.trans (Kb.of hKW5)
    have hz2 := HSZ2.out
    have hlu : u.length = 430 := HUU.out.1
    have HROW : Hid (Row .i64 W5 (some ⟨B, 0, none⟩) u) := fun j hj => ⟨_, rfl, by rw [add_lit, Nat.zero_add]; exact HC5.out.cell j hj⟩
    have hst := back_stops Fence.wide (6 - 1) trivial rfl (by decide) wc.heap.size (w.heap.size + 1) (some ⟨B, 0, none⟩) 430 u (by omega) W5 (by omega) (fun a ha => by cases ha; exact .inr (show B < _ by omega)) (by omega) (by rw [hlu]; exact cell_of_heap hbx5 0) HROW.out
    obtain ⟨I0, hi, hz0, hz1, hz3⟩ := info_parts info_byte
    have HI := Lib.hid (And.intro hi (And.intro hz0 (And.intro hz1 hz3)))
    have HST := Lib.hid hst
    have HLU2 := Lib.hid hlu
    clear hi hz0 hz1 hz3 hW5 hKW5 hst hlu
    refine wpIn_rangeFunc_ownF rfl (by decide) (gf := 236) (lb := #[.pointer (some ⟨wc.heap.size, 0, none⟩)]) rfl trivial (enters_of Tryz.func236 (by kernel_rfl) rfl)
      HST.out Kd.t (Kd.b (by omega) (by omega)) (Below.refl _ _) (fun _ => rfl)
      (fun pre V => (∃ v, V.heap[w.heap.size + 1]? = some (.cells #[.bool s, v, .int .i64 (-222), .bool false] 95 (0, 0)) ∧ V.ownsRow W5.heap.size 5 1 v pre.length (pre.map fun x => Value.int .u8 (u[x.1]?.getD 0))) ∧ Below (w.heap.size + 1) W5 V)
      (fun c pre V => False)
      (OwnFrom.and (Own.from (fun s X Y row hs hg hr => by obtain ⟨v, h1, h2⟩ := hs; exact ⟨v, heapKept h1 hg hr, own_kept h2 hg hr⟩) _) (ownFrom_below (by omega) (by omega)))
      (fun c s X Y row hs _ _ => hs)
      ⟨⟨_, HA5.out, World.ownsRow_nil _ _ _ _⟩, Below.refl _ _⟩
      (fun x => { tmps := (.pointer (some ⟨B, 0, none⟩) :: undef :: .pointer (some ⟨w.heap.size, 0, none⟩) :: .pointer (some ⟨w.heap.size + 1, 0, none⟩) :: u4 :: undef :: .int .i64 (u[x.1]?.getD 0) :: .agg #[.bool false, .slice none 0 0, .int .i64 (-222), .bool false] :: .pointer (some ⟨B, 0, none⟩) :: .int .i64 o :: .bool (decide (o < 0)) :: u11 :: u12 :: u13 :: u14 :: u15 :: u16 :: u17 :: u18 :: u19 :: u20 :: u21 :: u22 :: u23 :: u24 :: u25 :: u26 :: u27 :: u28 :: .pointer (some ⟨B, 0, none⟩) :: .pointer (some ⟨B, 0, none⟩) :: .slice (some ⟨B, 0, none⟩) 430 430 :: .func (.func 236) #[] #[.pointer (some ⟨wc.heap.size, 0, none⟩)] :: .int .i64 ((x.1 : Nat) : Int) :: .int .i64 (u[x.1]?.getD 0) :: u35 :: u36 :: u37 :: u38 :: u39 :: u40 :: u41 :: u42 :: []).toArray, defers := [] }) ?assign ?body ?done ?stop
    case assign =>
      intro l x W K hK
      gi_wp2
      exact hK
    case stop => rintro _ _ _ _ _ _ h; exact h.elim
    case body =>
      rintro l pre x V ⟨⟨v, ha, hown⟩, hB⟩ hpl
      obtain ⟨xi, hxi⟩ := x
      dsimp only at *
      have hin := HUU.out.2.1.at_ (by decide) xi
      rw [List.getD_eq_getElem?_getD] at hin
      obtain ⟨d, hd⟩ : ∃ d, u[xi]?.getD 0 = d := ⟨_, rfl⟩
      rw [hd] at hin ⊢
      have hin0 := hin.1
      have hin9 : d < 10 := hin.2
      have hwr : IntKind.u8.wrap d = d := by rw [show IntKind.u8.wrap d = d % 256 from rfl]; omega
      have hwr2 : IntKind.i64.wrap d = d := IntWalk.i64_in _ (by omega)
      have HD := Lib.hid hd
      have c0 := cell_of_heap ha 1
      simp at c0
      have hz5 : W5.heap.size ≤ V.heap.size := hB.size
      have HOW := Lib.hid hown
      have HAX := Lib.hid ha
      have HBX := Lib.hid hB
      have HNE := Lib.hid (own_neB hown (B := w.heap.size + 1) (by omega))
      have HCE : Hid (∀ (j : Nat) (o : Obj), v.ownBlock = some j → (V.alloc (.cells #[.int .u8 d] 5)).heap[j]? = some o → o.isCells = true) := fun j o hj ho => by
        rcases hown.2 with ⟨rfl, _⟩ | ⟨g, cap, cur, rfl, _, hh, _⟩
        · cases hj
        · cases hj
          rw [heap_old _ hh] at ho
          cases ho; rfl
      have hpl2 : pre.length < 430 := by have := HLU2.out; omega
      have a01 : ∀ o, (V.alloc o).cell? ⟨w.heap.size + 1, 1, none⟩ = some v := fun o => keep_cell ((Below.refl _ _).alloc (Nat.le_refl _) o) c0
      clear hd hin ha hown hB
      gi_wp2_with (gi_at_builtin; refine wpListIn_append_own _ rfl _ _ 93 rfl W5.heap.size 5 I0 (.int .u8 0) 1 1 Tryz.underlying93 HI.out.1 HI.out.2.1 HI.out.2.2.1 HI.out.2.2.2 rfl (by decide) _ _ _ rfl (HOW.out.alloc _) ⟨V.heap.size, 0, none⟩ 1 1 [.int .u8 d] rfl rfl (cell_one_new _ _ _) (by simp [Value.oneCell']) (by unfold maxLen; omega) (by omega) (by simp; omega) ?_; intro v' w1 hown1 hgrow1 _; obtain ⟨g9, cap9, rfl⟩ := own_some' hown1 (by omega); have hxa := grownB hgrow1 (heap_old _ HAX.out) HNE.out; have y1 := cell_of_heap hxa 1; have z1 := free_of_heap hxa 1; have HXA := Lib.hid hxa; have HO1 := Lib.hid hown1; have HG1 := Lib.hid hgrow1; simp at y1; clear hxa hown1 hgrow1)
      have hg1 := HG1.out
      have hb1 : Below (w.heap.size + 1) V w1 := ((Below.refl (w.heap.size + 1) V).alloc (by omega) _).grown hg1 (by simp; omega) ((own_from HOW.out).mono (by omega))
      refine ⟨(KeepsOthers.alloc V _).trans ((KeepsOthers.of_grownBy hg1 HCE.out).trans (KeepsOthers.setCell _ _ _)), ⟨hb1.setCell (p := ⟨w.heap.size + 1, 1, none⟩) (Nat.le_refl _) _, ?_⟩, ⟨.slice (some ⟨g9, 0, none⟩) (pre.length + 1) cap9, ?_, ?_⟩, (HBX.out.trans hb1).setCell (p := ⟨w.heap.size + 1, 1, none⟩) (Nat.le_refl _) _⟩
      · refine (Below.heap_setCell _ _ _ _ (by simp; omega)).trans ((hg1.block _ (by simp; omega) (fun e => ?_)).trans (Below.heap_alloc _ _ _ (by omega)))
        have := (HOW.out.lt _ e.symm).1
        omega
      · have := putB HXA.out 1 (.slice (some ⟨g9, 0, none⟩) (pre.length + 1) cap9)
        simpa using this
      · have h1 := own_setCell_other HO1.out ⟨w.heap.size + 1, 1, none⟩ (.slice (some ⟨g9, 0, none⟩) (pre.length + 1) cap9) (own_neB HO1.out (B := w.heap.size + 1) (by omega))
        rw [List.length_append, List.map_append]
        simp only [List.map_cons, List.map_nil]
        rw [HD.out]
        exact h1
    case done =>
      rintro D ys V hD rfl ⟨⟨v, ha, hown⟩, hB⟩ hK
      rw [dn_length _ _ (Nat.le_refl _), dn_rev u, HLU2.out] at hown
      obtain ⟨A, c, rfl, hc1, hc2, hr, hrl⟩ := own_row hown
      have HRW := Lib.hid hr
      have HFR := Lib.hid (own_from hown)
      have hcm : c ≤ 9223372036854775807 := by unfold maxLen at hc2; omega
      have a0 := cell_of_heap ha 0; have a1 := cell_of_heap ha 1; have a2 := cell_of_heap ha 2; have a3 := cell_of_heap ha 3
      have hr5 := (hB.block w.heap.size (by omega)).trans HR5.out
      have b0 := cell_of_heap hr5 0; have b1 := cell_of_heap hr5 1; have b2 := cell_of_heap hr5 2; have b3 := cell_of_heap hr5 3
      have z0 := free_of_heap hr5 0; have z1 := free_of_heap hr5 1; have z2 := free_of_heap hr5 2; have z3 := free_of_heap hr5 3
      simp at a0 a1 a2 a3 b0 b1 b2 b3
      have HR6 := Lib.hid hr5; have HBX := Lib.hid hB; have HK := Lib.hid hK
      have HC := Lib.hid (And.intro hc1 hcm)
      clear hr hc1 hc2 hcm hrl ha hown hr5 hB hK
      gi_wp2_with fail
      obtain ⟨F, hF, hb, hk, ho⟩ := amt_put (s := s) (n := u.length) (c := c) (A := A) (e := -222) (more := false) HR6.out
      rw [hF]
      have hK' : F.heap[D]? = some (.deferred (some [])) := (ho D (by omega)).trans HK.out
      have hkr : ∀ r, some D = some r → ∃ o : Obj, F.heap[r]? = some o ∧ o.isCells = false := fun r e => by cases e; exact ⟨_, hK', rfl⟩
      have hg := grownBy_putObj' F D (.deferred none)
      have hb' := heapKept hb hg hkr
      have r0 := cell_of_heap hb' 0; have r1 := cell_of_heap hb' 1; have r2 := cell_of_heap hb' 2; have r3 := cell_of_heap hb' 3
      simp at r0 r1 r2 r3
      have tp := total_pos (L := 430) HUU.out.2.1 HUU.out.2.2
      have hrow : Row .u8 F A u.reverse := row_keep HRW.out HFR.out (by omega) ho
      refine ⟨by simp, .inl ⟨_, _, rfl, run_takeDeferred hK', ?_⟩⟩
      refine ⟨.agg #[.bool s, .slice A u.length c, .int .i64 (-222), .bool false], ?_, _, u.reverse, rfl, ⟨A, c, by rw [List.length_reverse], HC.out.1, HC.out.2, row_kept hrow hg hkr⟩, tp.1, tp.2, by rw [List.length_reverse]; exact HUU.out.1, ?_⟩
      · simp [results, Tryz.results174, go_sem, r0, r1, r2, r3]
      · have h1 : Below w.heap.size W5 F := hk _ _ (Nat.le_refl _) (HBX.out.mono (by omega))
        have h2 : Below w.heap.size W5 (F.putObj D (.deferred none)) := h1.trans (belowK_b (w := W5) (by omega) F D _ _ (by omega) hK' rfl rfl)
        exact HKB5.out.trans' h2 (Nat.le_refl _)

theorem total_c (B : Nat) (t : List Int) (M : Int) (w : World) (hB : B < w.heap.size) (hc : Cols w B t) (ht : t.length = 430) (hM : TB M t) (hM0 : 0 ≤ M) (hM1 : M ≤ 1000000000000) (hV0 : -(10 ^ 430) < val 10 t) (hV1 : val 10 t < 10 ^ 430) :
    Calls Tryz.prog 174 #[.pointer (some ⟨B, 0, none⟩)] w fun en w' => ∃ v ds, en = .returned v ∧ Amt w' v (decide (val 10 t < 0)) ds (-222) false ∧ InR 10 ds ∧ vd ds = ((val 10 t).natAbs : Int) ∧ ds.length = 430 ∧ Kb B w w' :=
  callsIn_wide.1 (total_in B t M w hB hc ht hM hM0 hM1 hV0 hV1)
end Go.Proofs.YtekbfommnmikbaaGreatDoor
/- Package real: the exact sum. -/
namespace Go.Proofs.YtekbfommnmikbaaGreatDoor
set_option linter.unusedVariables false
set_option linter.unusedSimpArgs false
open Go.RowKit Go.Shelf Go.Proofs
attribute [local go_sem ↓] Go.wp_at_zero Go.wp_at_succ

/-- A row of reals: two cells each. -/
def Reals (w : World) (A : Option Addr) (l : List (Int × Int)) : Prop := ∀ j, j < l.length → ∃ a, A = some a ∧ w.cell? (a.add (j * 2)) = some (.int .i64 (l[j]?.getD (0, 0)).1) ∧ w.cell? ((a.add (j * 2)).add 1) = some (.int .i64 (l[j]?.getD (0, 0)).2)
theorem Reals.below {w w' : World} {A : Option Addr} {l : List (Int × Int)} (h : Reals w A l) (hb : Below w.heap.size w w') : Reals w' A l := fun j hj => by
  obtain ⟨a, e, h1, h2⟩ := h j hj
  exact ⟨a, e, keep_cell hb h1, keep_cell hb h2⟩

/-- The exact sum, times 10^222. -/
def sumV : List (Int × Int) → Int
  | [] => 0
  | p :: l => p.1 * 10 ^ (p.2 + 222).toNat + sumV l
theorem sumV_snoc (l : List (Int × Int)) (p : Int × Int) : sumV (l ++ [p]) = sumV l + p.1 * 10 ^ (p.2 + 222).toNat := by
  induction l with
  | nil => simp [sumV]
  | cons q l ih => rw [List.cons_append, sumV, ih, sumV]; omega
theorem RV_abs {m e : Int} (h : RV m.natAbs e) : m.natAbs < 1000000000000 ∧ -111 ≤ e ∧ e ≤ 88 := by
  unfold RV at h
  omega
theorem sumV_abs {K : Nat} (hK : ∀ e : Int, e ≤ 88 → (e + 222).toNat ≤ K) : ∀ (l : List (Int × Int)), (∀ p ∈ l, RV p.1.natAbs p.2) → (sumV l).natAbs ≤ l.length * (1000000000000 * 10 ^ K)
  | [], _ => Nat.zero_le _
  | p :: l, h => by
    have h1 := sumV_abs hK l fun q hq => h q (List.mem_cons_of_mem _ hq)
    obtain ⟨a, b, c⟩ := RV_abs (h p (List.mem_cons_self ..))
    have h2 : (p.1 * 10 ^ (p.2 + 222).toNat).natAbs ≤ 1000000000000 * 10 ^ K := by
      rw [Int.natAbs_mul, Int.natAbs_pow]
      exact Nat.mul_le_mul (Nat.le_of_lt a) (Nat.pow_le_pow_right (by decide) (hK _ c))
    rw [sumV, List.length_cons, Nat.add_mul, Nat.one_mul]
    generalize 1000000000000 * 10 ^ K = P at *
    omega
theorem pow_room {K L n : Nat} (hK : K + 16 ≤ L) (hn : n ≤ 1000) : n * (1000000000000 * 10 ^ K) < 10 ^ L := by
  have h1 : 10 ^ (K + 16) ≤ 10 ^ L := Nat.pow_le_pow_right (by decide) hK
  refine Nat.lt_of_lt_of_le ?_ h1
  rw [Nat.pow_add]
  have hp : 0 < 10 ^ K := Nat.pow_pos (by decide)
  generalize 10 ^ K = P at *
  have h2 := Nat.mul_le_mul_right (1000000000000 * P) hn
  omega
theorem sumV_room {l : List (Int × Int)} (h : ∀ p ∈ l, RV p.1.natAbs p.2) (hl : l.length ≤ 1000) : -(10 ^ 430) < sumV l ∧ sumV l < 10 ^ 430 := by
  have h1 := sumV_abs (K := 310) (by omega) l h
  have h2 := pow_room (K := 310) (L := 430) (by decide) hl
  have h3 : ((10 ^ 430 : Nat) : Int) = (10 : Int) ^ 430 := Int.natCast_pow 10 430
  rw [← h3]
  generalize (10 : Nat) ^ 430 = P at *
  generalize l.length * (1000000000000 * 10 ^ 310) = Q at *
  omega
theorem dgR_len {m : Int} {e : Int} (h : RV m.natAbs e) : (dg 10 m.natAbs).reverse.length ≤ 12 := by
  rw [List.length_reverse]
  exact (nd_le m.natAbs 12).2 (by have := (RV_abs h).1; omega)
theorem inR_dgR (n : Nat) : InR 10 (dg 10 n).reverse := inR_reverse (dg_inR (by decide) n)
/-- One real is entered. -/
theorem enter_real (m : Int) (P : Int) : (if decide (m < 0) = true then -1 else 1) * vd (dg 10 m.natAbs).reverse * P = m * P := by
  rw [vd_dg]
  by_cases h : m < 0
  · rw [if_pos (decide_eq_true h)]; congr 1; omega
  · rw [if_neg (by simpa using h)]; congr 1; omega

/-- Bytes lie in no box of other things. -/
theorem row_off {w F : World} {A : Option Addr} {xs : List Int} {B : Nat} {cs : Array Value} {t : TypeId} {fz : Nat × Nat} (h : Row .u8 w A xs) (hb : w.heap[B]? = some (.cells cs t fz)) (hn : ∀ (i : Nat) (x : Int), cs[i]? ≠ some (.int .u8 x)) (ho : ∀ g, g ≠ B → F.heap[g]? = w.heap[g]?) : Row .u8 F A xs := fun j hj => by
  obtain ⟨a, e, hc2⟩ := h j hj
  refine ⟨a, e, ?_⟩
  have hne : (a.add j).block ≠ B := fun e2 => by
    rcases hs : (a.add j).spot with _ | s
    · have e3 : a.add j = ⟨B, (a.add j).off, none⟩ := by rw [← e2, ← hs]
      rw [e3, cell_of_heap hb] at hc2
      exact hn _ _ hc2
    · unfold World.cell? at hc2
      rw [e2, hb, hs] at hc2
      simp at hc2
  rw [World.cell?_of_block (w := w) (ho _ hne)]
  exact hc2
theorem amt_cells {s more : Bool} {n c : Nat} {A : Option Addr} {e : Int} (i : Nat) (x : Int) : (#[.bool s, .slice A n c, .int .i64 e, .bool more] : Array Value)[i]? ≠ some (.int .u8 x) := by
  rcases i with _ | _ | _ | _ | i <;> simp

theorem drop_take' {α : Type} {l : List α} {i : Nat} (h : i < l.length) {d x : α} (hd : l[i]?.getD x = d) : l.take (i + 1) = l.take i ++ [d] := by
  rw [List.take_add_one, ← hd, List.getElem?_eq_getElem h]; rfl

set_option maxRecDepth 100000 in
set_option maxHeartbeats 4000000 in
theorem sum_c (A : Option Addr) (c : Nat) (l : List (Int × Int)) (w : World) (hr : Reals w A l) (hv : ∀ p ∈ l, RV p.1.natAbs p.2) (hl : l.length ≤ 1000) :
    Calls Tryz.prog 110 #[.slice A l.length c] w fun en w' => ∃ v ds, en = .returned v ∧ Amt w' v (decide (sumV l < 0)) ds (-222) false ∧ InR 10 ds ∧ vd ds = ((sumV l).natAbs : Int) ∧ ds.length = 430 ∧ Below w.heap.size w w' := by
  have HR := Lib.hid hr; have HV := Lib.hid hv; have HRM := Lib.hid (sumV_room hv hl)
  obtain ⟨L, hL⟩ : ∃ L, l.length = L := ⟨_, rfl⟩
  rw [hL] at hl ⊢
  have HL := Lib.hid hL
  obtain ⟨W, hW, k0, k1, hbel, hsz⟩ := bx2h w #[.bool false, .slice none 0 0, .int .i64 0, .bool false] Tryz.zeroCells173 95 173
  have HC : Hid (Cols W (w.heap.size + 1) (List.replicate 430 0)) := by
    have h1 := Cols.zero (w.alloc (.cells #[.bool false, .slice none 0 0, .int .i64 0, .bool false] 95))
    rw [hW] at h1
    have h2 : (w.alloc (.cells #[.bool false, .slice none 0 0, .int .i64 0, .bool false] 95)).heap.size = w.heap.size + 1 := by simp
    rw [h2] at h1
    exact h1
  have HK0 := Lib.hid k0; have HBEL := Lib.hid hbel; have HSZ := Lib.hid hsz
  have HRW := Lib.hid (hr.below hbel)
  clear k0 k1 hbel hsz hr hv hL
  go_enter Tryz.func110, Tryz.ntmps110
  go_wp2_with fail
  go_loopg [8] L (fun g iv wr => ∃ (i : Nat) (t : List Int), iv = .int .i64 (i : Int) ∧ i + g = L ∧ Hid (Cols wr (w.heap.size + 1) t) ∧ Hid (t.length = 430) ∧ Hid (val 10 t = sumV (l.take i)) ∧ Hid (TB (972 * (i : Int)) t) ∧ Hid (Kb (w.heap.size + 1) W wr))
  case atStart => exact ⟨0, _, rfl, by omega, HC.out, by show _ = _; simp, by show _ = _; rw [List.take_zero]; exact val_replicate 10 430, by show TB _ _; exact TB.zeros 430, Kb.refl _ _⟩
  case round =>
    obtain ⟨i, t, rfl, hi, HCt, HLt, HVt, HTt, HW⟩ := hrel
    have HI := Lib.hid hi
    have hbW : Below (w.heap.size + 1) W wr := HW.out.below (by have := HSZ.out; omega)
    have HWB : Hid (Below w.heap.size w wr) := HBEL.out.trans (hbW.mono (by omega))
    have hzr : w.heap.size + 2 ≤ wr.heap.size := by have := HSZ.out; have := HW.out.size; omega
    by_cases hiL : i < L
    · obtain ⟨a, rfl, hc0, hc1⟩ := (HR.out.below HWB.out) i (by rw [HL.out]; exact hiL)
      have hmem : l[i]?.getD (0, 0) ∈ l := by rw [List.getElem?_eq_getElem (by rw [HL.out]; exact hiL)]; exact List.getElem_mem _
      have hrv := HV.out _ hmem
      obtain ⟨m, e, hme⟩ : ∃ m e, l[i]?.getD (0, 0) = (m, e) := ⟨_, _, rfl⟩
      rw [hme] at hc0 hc1 hrv
      dsimp only at hc0 hc1 hrv
      have hc1' : wr.cell? { block := (a.add (i * 2)).block, off := (a.add (i * 2)).off + 1, spot := none } = some (.int .i64 e) := hc1
      have HRV := Lib.hid hrv
      have HME := Lib.hid hme
      clear hi hmem hme hrv hbW
      go_upto_region 5 with fail
      have hal : Below wr.heap.size wr (wr.alloc (.cells #[.int .i64 m, .int .i64 e] 23)) := (Below.refl _ _).alloc (Nat.le_refl _) _
      have b0 : (wr.alloc (.cells #[.int .i64 m, .int .i64 e] 23)).cell? ⟨wr.heap.size, 0, none⟩ = some (.int .i64 m) := cell_of_heap (heap_alloc_new _ _) 0
      have b1 : (wr.alloc (.cells #[.int .i64 m, .int .i64 e] 23)).cell? ⟨wr.heap.size, 1, none⟩ = some (.int .i64 e) := cell_of_heap (heap_alloc_new _ _) 1
      obtain ⟨W1, hW1⟩ : ∃ W1, wr.alloc (.cells #[.int .i64 m, .int .i64 e] 23) = W1 := ⟨_, rfl⟩
      rw [hW1] at hal b0 b1 ⊢
      have HC1 := Lib.hid (heapB hal HCt.out)
      have HW1 := Lib.hid (HW.out.trans (Kb.of hal))
      have hz1 : w.heap.size + 2 ≤ W1.heap.size := Nat.le_trans hzr hal.size
      clear hW1 hal
      obtain ⟨K, hK⟩ : ∃ K : Nat, e + 222 = (K : Int) := ⟨(e + 222).toNat, by have := RV_abs HRV.out; omega⟩
      have HKK := Lib.hid hK
      have hm18 : m.natAbs < 10 ^ 18 := by have := (RV_abs HRV.out).1; omega
      have hrng : Hid (K + (dg 10 m.natAbs).reverse.length ≤ 430) := by have := RV_abs HRV.out; have := dgR_len HRV.out; show _ ≤ _; omega
      have hl81 : Hid (972 * (i : Int) + 81 * ((dg 10 m.natAbs).reverse.length : Int) ≤ 972 * ((i + 1 : Nat) : Int)) := by have := dgR_len HRV.out; show _ ≤ _; omega
      clear hK
      go_wp2_with (first
        | (go_at_call 87; refine (amountOf_c m e _ hm18).mono ?_; rintro en w' ⟨v, rfl, ha, hbz⟩; have HA := Lib.hid ha; have HBZ := Lib.hid hbz; have HC2 := Lib.hid (heapB hbz HC1.out); have hz2 : w.heap.size + 2 ≤ w'.heap.size := Nat.le_trans hz1 hbz.size; clear ha hbz)
        | (go_at_call 173; refine (enter_c (w.heap.size + 1) t _ _ _ e false 1 K (972 * (i : Int)) _ (by omega) HC2.out HLt.out HA.out (inR_dgR _) HKK.out hrng.out (by decide) (by decide) HTt.out (by omega) (by omega)).mono ?_; rintro en w3 ⟨rfl, t', hc3, hl3, hv3, ht3, hk3⟩; have HC3 := Lib.hid hc3; have HL3 := Lib.hid hl3; have HV3 := Lib.hid hv3; have HT3 := Lib.hid ht3; have HK3 := Lib.hid hk3; clear hc3 hl3 hv3 ht3 hk3))
      go_roundg (gk - 1)
      case measure => have := HI.out; omega
      case rel =>
        refine ⟨i + 1, t', by go_num, by have := HI.out; omega, HC3.out, HL3.out, ?_, HT3.out.mono hl81.out, (HW1.out.trans (Kb.of HBZ.out)).trans HK3.out⟩
        show _ = _
        rw [HV3.out, HVt.out, enter_real, drop_take' (by rw [HL.out]; exact hiL) HME.out, sumV_snoc]
        have : (e + 222).toNat = K := by have := HKK.out; omega
        rw [this]
    · obtain rfl : i = L := by omega
      clear hi hbW
      have HVS : Hid (val 10 t = sumV l) := by show _ = _; rw [HVt.out, List.take_of_length_le (by rw [HL.out]; exact Nat.le_refl _)]
      have HRN : Hid (-(10 ^ 430) < val 10 t ∧ val 10 t < 10 ^ 430) := by show _ ∧ _; rw [HVS.out]; exact HRM.out
      go_wp2_with (go_at_call 174; refine (total_c (w.heap.size + 1) t (972 * (i : Int)) _ (by omega) HCt.out HLt.out HTt.out (by omega) (by omega) HRN.out.1 HRN.out.2).mono ?_; rw [HVS.out]; rintro en w3 ⟨v, ds, rfl, ⟨A9, c9, rfl, hc9, hm9, hr9⟩, hi9, hv9, hl9, hk9⟩; have q := hk9.heap (HW.out.heap HK0.out (by omega)) (by omega); have q0 := cell_of_heap q 0; have q1 := cell_of_heap q 1; have q2 := cell_of_heap q 2; have q3 := cell_of_heap q 3; have y0 := free_of_heap q 0; have y1 := free_of_heap q 1; have y2 := free_of_heap q 2; have y3 := free_of_heap q 3; have HQ := Lib.hid q; have HC9 := Lib.hid (And.intro hc9 hm9); have HR9 := Lib.hid hr9; have HD9 := Lib.hid (And.intro hi9 (And.intro hv9 hl9)); have HK9 := Lib.hid hk9; simp at q0 q1 q2 q3; clear hc9 hm9 hr9 hi9 hv9 hl9 hk9 q)
      obtain ⟨s, hs⟩ : ∃ s, decide (sumV l < 0) = s := ⟨_, rfl⟩
      rw [hs]
      obtain ⟨F, hF, hb, hk, ho⟩ := amt_put (s := s) (n := ds.length) (c := c9) (A := A9) (e := -222) (more := false) HQ.out
      rw [hF]
      have r0 := cell_of_heap hb 0; have r1 := cell_of_heap hb 1; have r2 := cell_of_heap hb 2; have r3 := cell_of_heap hb 3
      simp at r0 r1 r2 r3
      refine bodyPost_ret (v := .agg #[.bool s, .slice A9 ds.length c9, .int .i64 (-222), .bool false]) (by simp [results, Tryz.results110, go_sem, r0, r1, r2, r3]) rfl ?_
      have hzr2 : w.heap.size < wr.heap.size := by omega
      exact ⟨_, ds, rfl, ⟨A9, c9, rfl, HC9.out.1, HC9.out.2, row_off HR9.out HQ.out amt_cells ho⟩, HD9.out.1, HD9.out.2.1, HD9.out.2.2, hk _ _ (Nat.le_refl _) (HWB.out.trans ((HK9.out.below (by omega)).mono (by omega)))⟩
end Go.Proofs.YtekbfommnmikbaaGreatDoor
/- Package real: the exact product. -/
namespace Go.Proofs.YtekbfommnmikbaaGreatDoor
set_option linter.unusedVariables false
set_option linter.unusedSimpArgs false
open Go.RowKit Go.Shelf Go.Proofs
attribute [local go_sem ↓] Go.wp_at_zero Go.wp_at_succ

theorem bx4h (w : World) (a0 a1 a2 a3 : Array Value) (t0 t1 t2 t3 : TypeId) : ∃ W, (((w.alloc (.cells a0 t0)).alloc (.cells a1 t1)).alloc (.cells a2 t2)).alloc (.cells a3 t3) = W ∧ W.heap[w.heap.size]? = some (.cells a0 t0 (0, 0)) ∧ W.heap[w.heap.size + 1]? = some (.cells a1 t1 (0, 0)) ∧ W.heap[w.heap.size + 1 + 1]? = some (.cells a2 t2 (0, 0)) ∧ W.heap[w.heap.size + 1 + 1 + 1]? = some (.cells a3 t3 (0, 0)) ∧ Below w.heap.size w W ∧ W.heap.size = w.heap.size + 4 :=
  ⟨_, rfl, heap_old _ (heap_old _ (heap_old _ (heap_alloc_new _ _))), heap_old _ (heap_old _ (heap_new' _ _ _ (by simp))), heap_old _ (heap_new' _ _ _ (by simp)), heap_new' _ _ _ (by simp), ((((Below.refl _ _).alloc (Nat.le_refl _) _).alloc (by simp) _).alloc (by simp; omega) _).alloc (by simp; omega) _, by simp⟩

/-- One digit of the factor is entered. -/
theorem mul_digit (m d P : Int) : (if decide (m < 0) = true then -d else d) * vd (dg 10 m.natAbs).reverse * P = m * d * P := by
  rw [vd_dg]
  by_cases h : m < 0
  · rw [if_pos (decide_eq_true h)]
    have : ((m.natAbs : Nat) : Int) = -m := by omega
    rw [this]; grind
  · rw [if_neg (by simpa using h)]
    have : ((m.natAbs : Nat) : Int) = m := by omega
    rw [this]; grind
theorem prod_room {L : Nat} {xm xe ym ye : Int} (hx : RV xm.natAbs xe) (hy : RV ym.natAbs ye) {P : Nat} (hP : xe + ye + 222 = (P : Int)) (hL : 422 < L) : -(10 ^ L) < xm * (ym.natAbs : Int) * 10 ^ P ∧ xm * (ym.natAbs : Int) * 10 ^ P < 10 ^ L := by
  obtain ⟨a1, a2, a3⟩ := RV_abs hx
  obtain ⟨b1, b2, b3⟩ := RV_abs hy
  have h1 : (xm * (ym.natAbs : Int) * 10 ^ P).natAbs = xm.natAbs * ym.natAbs * 10 ^ P := by
    rw [Int.natAbs_mul, Int.natAbs_mul, Int.natAbs_pow]; rfl
  have h2 : xm.natAbs * ym.natAbs ≤ 1000000000000 * 1000000000000 := Nat.mul_le_mul (Nat.le_of_lt a1) (Nat.le_of_lt b1)
  have h3 : xm.natAbs * ym.natAbs * 10 ^ P ≤ 10 ^ (24 + P) := by rw [Nat.pow_add]; exact Nat.mul_le_mul_right _ h2
  have h4 : 10 ^ (24 + P) < 10 ^ L := Nat.pow_lt_pow_right (by decide) (by omega)
  have h5 : ((10 ^ L : Nat) : Int) = (10 : Int) ^ L := Int.natCast_pow 10 L
  rw [← h5]
  generalize (10 : Nat) ^ L = Q at *
  generalize 10 ^ (24 + P) = R at *
  omega
theorem RV_nd {m : Nat} {e : Int} (h : RV m e) : nd m = 0 ∨ nd m = 12 := by
  rcases h with ⟨rfl, -⟩ | ⟨h1, h2, -, -⟩
  · exact .inl nd_zero
  · exact .inr (nd_eq (k := 11) (by omega) (by omega))

set_option maxRecDepth 100000 in
set_option maxHeartbeats 4000000 in
theorem product_c (xm xe ym ye : Int) (w : World) (hx : RV xm.natAbs xe) (hy : RV ym.natAbs ye) (P : Nat) (hP : xe + ye + 222 = (P : Int)) :
    Calls Tryz.prog 119 #[.agg #[.int .i64 xm, .int .i64 xe], .agg #[.int .i64 ym, .int .i64 ye]] w fun en w' => ∃ v ds, en = .returned v ∧ Amt w' v (decide (xm < 0) != decide (ym < 0)) ds (-222) false ∧ InR 10 ds ∧ vd ds = ((xm.natAbs * ym.natAbs * 10 ^ P : Nat) : Int) ∧ ds.length = 430 ∧ Below w.heap.size w w' := by
  obtain ⟨W, hW, k0, k1, k2, k3, hbel, hsz⟩ := bx4h w #[.int .i64 xm, .int .i64 xe] #[.int .i64 ym, .int .i64 ye] #[.bool false, .slice none 0 0, .int .i64 0, .bool false] Tryz.zeroCells173 23 23 95 173
  have HC : Hid (Cols W (w.heap.size + 1 + 1 + 1) (List.replicate 430 0)) := by
    have h1 := Cols.zero (((w.alloc (.cells #[.int .i64 xm, .int .i64 xe] 23)).alloc (.cells #[.int .i64 ym, .int .i64 ye] 23)).alloc (.cells #[.bool false, .slice none 0 0, .int .i64 0, .bool false] 95))
    rw [hW] at h1
    have h2 : (((w.alloc (.cells #[.int .i64 xm, .int .i64 xe] 23)).alloc (.cells #[.int .i64 ym, .int .i64 ye] 23)).alloc (.cells #[.bool false, .slice none 0 0, .int .i64 0, .bool false] 95)).heap.size = w.heap.size + 1 + 1 + 1 := by simp
    rw [h2] at h1
    exact h1
  have HK0 := Lib.hid k0; have HK1 := Lib.hid k1; have HK2 := Lib.hid k2; have HBEL := Lib.hid hbel; have HSZ := Lib.hid hsz
  have HX := Lib.hid hx; have HY := Lib.hid hy; have HP := Lib.hid hP
  have c00 := cell_of_heap k0 0; have c01 := cell_of_heap k0 1
  simp at c00 c01
  have hx18 : xm.natAbs < 10 ^ 18 := by have := (RV_abs hx).1; omega
  have hy18 : ym.natAbs < 10 ^ 18 := by have := (RV_abs hy).1; omega
  have hy0 : -9223372036854775807 ≤ ym := by omega
  have hy1 : ym ≤ 9223372036854775807 := by omega
  have hzw : w.heap.size + 4 ≤ W.heap.size := by omega
  obtain ⟨s, hs⟩ : ∃ s, decide (xm < 0) = s := ⟨_, rfl⟩
  have HSX := Lib.hid hs
  rw [hs]
  obtain ⟨dx, hdx⟩ : ∃ dx, (dg 10 xm.natAbs).reverse = dx := ⟨_, rfl⟩
  have HDX := Lib.hid hdx
  obtain ⟨dy, hdy⟩ : ∃ dy, (dg 10 ym.natAbs).reverse = dy := ⟨_, rfl⟩
  have HDY := Lib.hid hdy
  clear k0 k1 k2 k3 hbel hsz hx hy hP hs hdx hdy
  go_enter Tryz.func119, Tryz.ntmps119
  go_upto_region 2 with fail
  go_upto_region 3 with (go_at_call 87; refine (amountOf_c xm xe _ hx18).mono ?_; rw [HSX.out, HDX.out]; rintro en W2 ⟨v, rfl, ⟨A9, c9, rfl, hc9, hm9, hr9⟩, hbz⟩; have HC9 := Lib.hid (And.intro hc9 hm9); have HR9 := Lib.hid hr9; have HB2 := Lib.hid hbz; clear hc9 hm9 hr9 hbz)
  obtain ⟨W3, hW3⟩ : ∃ W3, W2.alloc (.cells #[.bool s, .slice A9 dx.length c9, .int .i64 xe, .bool false] 95) = W3 := ⟨_, rfl⟩
  have hb3 : Below W.heap.size W W3 := by rw [← hW3]; exact HB2.out.alloc HB2.out.size _
  have ha3 : W3.heap[W2.heap.size]? = some (.cells #[.bool s, .slice A9 dx.length c9, .int .i64 xe, .bool false] 95 (0, 0)) := by rw [← hW3]; exact heap_alloc_new _ _
  have hr3 : Row .u8 W3 A9 dx := by rw [← hW3]; exact HR9.out.below ((Below.refl _ _).alloc (Nat.le_refl _) _)
  have hz3 : W3.heap.size = W2.heap.size + 1 := by rw [← hW3]; simp
  rw [hW3]
  have HB3 := Lib.hid hb3; have HA3 := Lib.hid ha3; have HR3 := Lib.hid hr3
  have hzz : w.heap.size + 4 ≤ W2.heap.size := Nat.le_trans hzw HB2.out.size
  have k1' := heapB hb3 HK1.out
  have c10 := cell_of_heap k1' 0; have c11 := cell_of_heap k1' 1
  simp at c10 c11
  clear hW3 hb3 ha3 hr3 k1' c00 c01
  go_upto_region 4 with (first
    | (go_at_call 100; refine (size_c ym _ hy0 hy1).mono ?_; rintro en w' ⟨rfl, rfl⟩)
    | (go_at_call 89; refine (digitsOf_c ym.natAbs _ hy18).mono ?_; rw [HDY.out]; rintro en W4 ⟨v, rfl, ⟨A8, c8, rfl, hc8, hm8, hr8⟩, hf8, hbz⟩; have HC8 := Lib.hid (And.intro hc8 hm8); have HR8 := Lib.hid hr8; have HB4 := Lib.hid hbz; clear hc8 hm8 hr8 hf8 hbz))
  obtain ⟨L, hL⟩ : ∃ L, dy.length = L := ⟨_, rfl⟩
  have HL := Lib.hid hL
  have HL12 : Hid (L = 0 ∨ L = 12) := by
    have h1 := RV_nd HY.out
    unfold nd at h1
    rw [← List.length_reverse, HDY.out, hL] at h1
    exact h1
  rw [hL] at HC8 ⊢
  have HC4 := Lib.hid (heapB HB4.out (heapB HB3.out HC.out))
  have HK4 : Hid (Kb (w.heap.size + 1 + 1 + 1) W3 W4) := Kb.of HB4.out
  have hz4 : W3.heap.size ≤ W4.heap.size := HB4.out.size
  have HA4 := Lib.hid (heapB HB4.out HA3.out)
  have HK14 := Lib.hid (heapB HB4.out (heapB HB3.out HK1.out))
  have HDX9 : Hid (∀ i : Nat, 0 ≤ dy[i]?.getD 0 ∧ dy[i]?.getD 0 < 10) := by
    have h1 := inR_dgR ym.natAbs
    rw [HDY.out] at h1
    intro i
    have := h1.at_ (by decide) i
    rw [List.getD_eq_getElem?_getD] at this
    exact ⟨this.1, this.2⟩
  clear hL
  go_loopg [18] L (fun g iv wr => ∃ (i : Nat) (t : List Int), iv = .int .i64 (i : Int) ∧ i + g = L ∧ Hid (Cols wr (w.heap.size + 1 + 1 + 1) t) ∧ Hid (t.length = 430) ∧ Hid (val 10 t = xm * vd (dy.take i) * 10 ^ (P + (L - i))) ∧ Hid (TB (972 * (i : Int)) t) ∧ Hid (Kb (w.heap.size + 1 + 1 + 1) W4 wr))
  case atStart => exact ⟨0, _, rfl, by omega, HC4.out, by show _ = _; simp, by show _ = _; rw [List.take_zero, vd_nil]; rw [Int.mul_zero, Int.zero_mul]; exact val_replicate 10 430, by show TB _ _; exact TB.zeros 430, Kb.refl _ _⟩
  case round =>
    obtain ⟨i, t, rfl, hi, HCt, HLt, HVt, HTt, HW⟩ := hrel
    have HI := Lib.hid hi
    have hzr : W4.heap.size ≤ wr.heap.size := HW.out.size
    by_cases hiL : i < L
    · obtain ⟨a, rfl, hcd⟩ := (HW.out.row HC4.out HR8.out) i (by rw [HL.out]; exact hiL)
      obtain ⟨d0, d9⟩ := HDX9.out i
      obtain ⟨d, hd⟩ : ∃ d, dy[i]?.getD 0 = d := ⟨_, rfl⟩
      rw [hd] at hcd d0 d9
      have HD := Lib.hid hd
      have hwd : IntKind.i64.wrap d = d := IntWalk.i64_in _ (by omega)
      have ha := HW.out.heap HA4.out (by omega)
      have a0 := cell_of_heap ha 0; have a1 := cell_of_heap ha 1; have a2 := cell_of_heap ha 2; have a3 := cell_of_heap ha 3
      have hy := HW.out.heap HK14.out (by omega)
      have b0 := cell_of_heap hy 0; have b1 := cell_of_heap hy 1
      simp at a0 a1 a2 a3 b0 b1
      clear hi hd ha hy
      go_upto_region 7 with fail
      obtain ⟨W5, hW5⟩ : ∃ W5, wr.alloc (.cells #[.bool s, .slice A9 dx.length c9, .int .i64 xe, .bool false] 95) = W5 := ⟨_, rfl⟩
      have hb5 : Below wr.heap.size wr W5 := by rw [← hW5]; exact (Below.refl _ _).alloc (Nat.le_refl _) _
      have ha5 : W5.heap[wr.heap.size]? = some (.cells #[.bool s, .slice A9 dx.length c9, .int .i64 xe, .bool false] 95 (0, 0)) := by rw [← hW5]; exact heap_alloc_new _ _
      have hz5 : W5.heap.size = wr.heap.size + 1 := by rw [← hW5]; simp
      rw [hW5]
      have e0 := cell_of_heap ha5 0; have e1 := cell_of_heap ha5 1; have e2 := cell_of_heap ha5 2; have e3 := cell_of_heap ha5 3; have f2 := free_of_heap ha5 2
      have b1 := keep_cell hb5 b1
      simp at e0 e1 e2 e3
      obtain ⟨-, x1, x2⟩ := RV_abs HX.out
      obtain ⟨-, y1, y2⟩ := RV_abs HY.out
      have HB5 := Lib.hid hb5; have HA5 := Lib.hid ha5
      obtain rfl : L = 12 := by rcases HL12.out with h | h <;> omega
      clear hW5 hb5 ha5 a0 a1 a2 a3 b0
      go_upto_region 8 with fail
      obtain ⟨E, hE⟩ : ∃ E, xe + (ye + 12 - 1 - (i : Int)) = E := ⟨_, rfl⟩
      rw [hE]
      have HE := Lib.hid hE
      obtain ⟨W6, hW6⟩ : ∃ W6, W5.setCell { block := wr.heap.size, off := 2 } (.int .i64 E) = W6 := ⟨_, rfl⟩
      have hb6 : Below wr.heap.size wr W6 := by rw [← hW6]; exact HB5.out.setCell (p := ⟨wr.heap.size, 2, none⟩) (Nat.le_refl _) _
      have ha6 := putB HA5.out 2 (.int .i64 E)
      have ho6 : ∀ g, g ≠ wr.heap.size → W6.heap[g]? = W5.heap[g]? := fun g hg => by rw [← hW6]; exact Below.heap_setCell _ _ _ _ hg
      rw [hW6] at ha6 ⊢
      simp at ha6
      have hr6 : Row .u8 W6 A9 dx := row_off ((HW.out.row HC4.out (HR3.out.below HB4.out)).below HB5.out) HA5.out amt_cells ho6
      have g0 := cell_of_heap ha6 0; have g1 := cell_of_heap ha6 1; have g2 := cell_of_heap ha6 2; have g3 := cell_of_heap ha6 3
      simp at g0 g1 g2 g3
      have HAM : Hid (Amt W6 (.agg #[.bool s, .slice A9 dx.length c9, .int .i64 E, .bool false]) s dx E false) := ⟨A9, c9, rfl, HC9.out.1, HC9.out.2, hr6⟩
      have HC6 := Lib.hid (heapB hb6 HCt.out)
      have HB6 := Lib.hid hb6
      obtain ⟨K, hK⟩ : ∃ K : Nat, P + (11 - i) = K := ⟨_, rfl⟩
      have HKK : Hid (E + 222 = (K : Int)) := by show _ = _; have := HP.out; omega
      have HKP : Hid (P + (12 - i) = K + 1 ∧ P + (12 - (i + 1)) = K) := by show _ ∧ _; omega
      have hdl : dx.length ≤ 12 := by have := dgR_len HX.out; rw [HDX.out] at this; exact this
      have hrng : Hid (K + dx.length ≤ 430) := by show _ ≤ _; have := HP.out; omega
      have hl81 : Hid (972 * (i : Int) + 81 * (dx.length : Int) ≤ 972 * ((i + 1 : Nat) : Int)) := by show _ ≤ _; omega
      have hIR : Hid (InR 10 dx) := by have := inR_dgR xm.natAbs; rw [HDX.out] at this; exact this
      have hz6 : w.heap.size + 1 + 1 + 1 < W6.heap.size := by have := hb6.size; omega
      clear hW6 hb6 ha6 ho6 hr6 hE hK e0 e1 e2 e3 f2
      go_wp2_with (go_at_call 173; refine (enter_c (w.heap.size + 1 + 1 + 1) t _ _ _ E false d K (972 * (i : Int)) _ hz6 HC6.out HLt.out HAM.out hIR.out HKK.out hrng.out (by omega) (by omega) HTt.out (by omega) (by omega)).mono ?_; rintro en w3 ⟨rfl, t', hc3, hl3, hv3, ht3, hk3⟩; have HC3 := Lib.hid hc3; have HL3 := Lib.hid hl3; have HV3 := Lib.hid hv3; have HT3 := Lib.hid ht3; have HK3 := Lib.hid hk3; clear hc3 hl3 hv3 ht3 hk3)
      go_roundg (gk - 1)
      case measure => have := HI.out; omega
      case rel =>
        refine ⟨i + 1, t', by go_num, by have := HI.out; omega, HC3.out, HL3.out, ?_, HT3.out.mono hl81.out, (HW.out.trans (Kb.of HB6.out)).trans HK3.out⟩
        show _ = _
        rw [HV3.out, HVt.out, ← HSX.out, ← HDX.out, mul_digit, HKP.out.1, HKP.out.2, drop_take' (by rw [HL.out]; exact hiL) HD.out, vd_snoc, Int.pow_succ]
        grind
    · obtain rfl : i = L := by omega
      clear hi
      have HVS : Hid (val 10 t = xm * (ym.natAbs : Int) * 10 ^ P) := by
        show _ = _
        rw [HVt.out, Nat.sub_self, Nat.add_zero, List.take_of_length_le (by rw [HL.out]; exact Nat.le_refl _), ← HDY.out, vd_dg]
      have HRN := Lib.hid (prod_room (L := 430) HX.out HY.out HP.out (by decide))
      rw [← HVS.out] at HRN
      have hz9 : w.heap.size + 1 + 1 + 1 < wr.heap.size := by omega
      go_upto_region 11 with (go_at_call 174; refine (total_c (w.heap.size + 1 + 1 + 1) t (972 * (i : Int)) _ hz9 HCt.out HLt.out HTt.out (by omega) (by have := HL12.out; omega) HRN.out.1 HRN.out.2).mono ?_; rw [HVS.out]; rintro en w3 ⟨v, ds, rfl, ⟨A7, c7, rfl, hc7, hm7, hr7⟩, hi7, hv7, hl7, hk7⟩; have HC7 := Lib.hid (And.intro hc7 hm7); have HR7 := Lib.hid hr7; have HD7 := Lib.hid (And.intro hi7 (And.intro hv7 hl7)); have HK7 := Lib.hid hk7; clear hc7 hm7 hr7 hi7 hv7 hl7 hk7)
      obtain ⟨s1, hs1⟩ : ∃ s1, decide (xm * (ym.natAbs : Int) * 10 ^ P < 0) = s1 := ⟨_, rfl⟩
      rw [hs1]
      obtain ⟨W8, hW8⟩ : ∃ W8, w3.alloc (.cells #[.bool s1, .slice A7 ds.length c7, .int .i64 (-222), .bool false] 95) = W8 := ⟨_, rfl⟩
      have hb8 : Below w3.heap.size w3 W8 := by rw [← hW8]; exact (Below.refl _ _).alloc (Nat.le_refl _) _
      have ha8 : W8.heap[w3.heap.size]? = some (.cells #[.bool s1, .slice A7 ds.length c7, .int .i64 (-222), .bool false] 95 (0, 0)) := by rw [← hW8]; exact heap_alloc_new _ _
      rw [hW8]
      have HKW := Lib.hid (HW.out.trans (HK7.out.trans (Kb.of hb8)))
      have hx8 := HKW.out.heap (heapB HB4.out (heapB HB3.out HK0.out)) (by omega)
      have hy8 := HKW.out.heap (heapB HB4.out (heapB HB3.out HK1.out)) (by omega)
      have hr8 := HKW.out.heap (heapB HB4.out (heapB HB3.out HK2.out)) (by omega)
      have m0 := cell_of_heap hx8 0; have n0 := cell_of_heap hy8 0
      have e0 := cell_of_heap ha8 0; have e1 := cell_of_heap ha8 1; have e2 := cell_of_heap ha8 2; have e3 := cell_of_heap ha8 3; have f0 := free_of_heap ha8 0
      simp at m0 n0 e0 e1 e2 e3
      have HA8 := Lib.hid ha8; have HR8 := Lib.hid hr8; have HB8 := Lib.hid hb8
      clear hW8 hb8 ha8 hx8 hy8 hr8 hs1
      go_upto_region 12 with fail
      obtain ⟨sg, hsg⟩ : ∃ sg, (!decide (xm < 0) == decide (ym < 0)) = sg := ⟨_, rfl⟩
      have HSG : Hid ((s != decide (ym < 0)) = sg) := by show _ = _; rw [← HSX.out]; exact hsg
      rw [hsg]
      obtain ⟨W9, hW9⟩ : ∃ W9, W8.setCell { block := w3.heap.size, off := 0 } (.bool sg) = W9 := ⟨_, rfl⟩
      have ha9 := putB HA8.out 0 (.bool sg)
      have ho9 : ∀ g, g ≠ w3.heap.size → W9.heap[g]? = W8.heap[g]? := fun g hg => by rw [← hW9]; exact Below.heap_setCell _ _ _ _ hg
      have hb9 : Below w3.heap.size w3 W9 := by rw [← hW9]; exact HB8.out.setCell (p := ⟨w3.heap.size, 0, none⟩) (Nat.le_refl _) _
      rw [hW9] at ha9 ⊢
      simp at ha9
      have hz3' : wr.heap.size ≤ w3.heap.size := HK7.out.size
      have hr9 : W9.heap[w.heap.size + 1 + 1]? = _ := (ho9 _ (by omega)).trans HR8.out
      have HRW9 := Lib.hid (row_off (HR7.out.below HB8.out) HA8.out amt_cells ho9)
      have g0 := cell_of_heap ha9 0; have g1 := cell_of_heap ha9 1; have g2 := cell_of_heap ha9 2; have g3 := cell_of_heap ha9 3
      have q0 := cell_of_heap hr9 0; have q1 := cell_of_heap hr9 1; have q2 := cell_of_heap hr9 2; have q3 := cell_of_heap hr9 3
      have y0 := free_of_heap hr9 0; have y1 := free_of_heap hr9 1; have y2 := free_of_heap hr9 2; have y3 := free_of_heap hr9 3
      simp at g0 g1 g2 g3 q0 q1 q2 q3
      have HQ := Lib.hid hr9; have HKE := Lib.hid (HW.out.trans (HK7.out.trans (Kb.of hb9)))
      clear hW9 ha9 ho9 hb9 hr9 hsg m0 n0 e0 e1 e2 e3 f0
      go_wp2_with fail
      obtain ⟨F, hF, hb, hk, ho⟩ := amt_put (s := sg) (n := ds.length) (c := c7) (A := A7) (e := -222) (more := false) HQ.out
      rw [hF]
      have r0 := cell_of_heap hb 0; have r1 := cell_of_heap hb 1; have r2 := cell_of_heap hb 2; have r3 := cell_of_heap hb 3
      simp at r0 r1 r2 r3
      refine bodyPost_ret (v := .agg #[.bool sg, .slice A7 ds.length c7, .int .i64 (-222), .bool false]) (by simp [results, Tryz.results119, go_sem, r0, r1, r2, r3]) rfl ?_
      rw [HSG.out]
      refine ⟨_, ds, rfl, ⟨A7, c7, rfl, HC7.out.1, HC7.out.2, row_off HRW9.out HQ.out amt_cells ho⟩, HD7.out.1, ?_, HD7.out.2.2, hk _ _ (by omega) ?_⟩
      · rw [HD7.out.2.1, Int.natAbs_mul, Int.natAbs_mul, Int.natAbs_pow]; rfl
      · have h1 : Below w.heap.size w W4 := HBEL.out.trans ((HB3.out.mono (by omega)).trans (HB4.out.mono (by omega)))
        exact h1.trans ((HKE.out.below (by omega)).mono (by omega))
end Go.Proofs.YtekbfommnmikbaaGreatDoor
/- An iterator without an end that keeps its state in a cell; a loop over it that leaves by break. -/
namespace Go.Proofs.YtekbfommnmikbaaGreatDoor
set_option linter.unusedVariables false
set_option linter.unusedSimpArgs false
open Go.RowKit Go.Shelf Go.Proofs

/-- The iterator: its k-th item; between two rounds it may write block mb; the body keeps what lies below n₀. -/
def Endless (F : Fence) (n : Nat) (P : Program) (gf : Nat) (lb : Array Value) (item : Nat → Int × Bool) (n₀ mb N : Nat) (w : World) : Prop :=
  ∀ (l : Nat) (J Jx : Nat → World → Prop) (W : World), Below w.heap.size w W →
    (∀ k W1, J k W1 → k < N) → (∀ k W1 v, J k W1 → J k (W1.setCell ⟨mb, 0, none⟩ v)) → (∀ k W1 W2, J k W1 → W1.grownBy W2 none → J k W2) →
    (∀ k W1, J k W1 → YieldAt F (n - 1) P l #[.int .u8 (item k).1, .bool (item k).2] W1 fun e W' => (e = .returned (.bool true) ∧ J (k + 1) W' ∧ Below n₀ W1 W') ∨ (e = .returned (.bool false) ∧ Jx (k + 1) W')) →
    J 0 W → CallsIn F n P gf (#[.func (.yield l) #[] #[]] ++ lb) W fun e W' => (∃ v, e = .returned v) ∧ ∃ k, Jx (k + 1) W'

/-- How a round ends. -/
def endPost (n₀ id : Nat) (I Ix : Nat → World → Prop) (k : Nat) (W : World) (e : Exit) (W' : World) : Prop :=
  (e = .normal ∧ KeepsOthers W W' ∧ Below n₀ W W' ∧ I (k + 1) W') ∨ (e = .exit id ∧ KeepsOthers W W' ∧ Ix (k + 1) W')

theorem range_endless {F : Fence} {n : Nat} {P : Program} {g : Operand} {ps : Array Tmp} {assign body : Code} {Q : Exit → Act → World → Prop} {a : Act} {w w0 : World} {gf : Nat} {lb : Array Value} {item : Nat → Int × Bool} {n₀ mb N id : Nat}
    (hro : F.round = none) (h1 : 1 ≤ n) (hg : a.eval g = .func (.func gf) #[] lb) (hFg : F.fn gf) (eg : ∀ args w, (callFunc gf args).run P w = .ok (.enter gf args) w)
    (hseq : Endless F (n - 1) P gf lb item n₀ mb N w0) (hb0 : Below w0.heap.size w0 w) (hn₀ : n₀ ≤ w.heap.size) (hmb : mb < w.heap.size) (hps : ps.size = 2)
    (I Ix : Nat → World → Prop) (hI : OwnFrom w.heap.size I) (hIx : OwnFrom w.heap.size Ix) (hIm : ∀ k W v, I k W → I k (W.setCell ⟨mb, 0, none⟩ v)) (hIN : ∀ k W, I k W → k < N) (h0 : I 0 w) (a₁ : Nat → Act)
    (hassign : ∀ (l k : Nat) (W : World) (K : Act → World → Prop), K (a₁ k) W → assign.wpIn (F.inRound l) (n - 1 - 1) P (Exit.then K (fun _ _ _ => False)) { tmps := (ps.zip #[.int .u8 (item k).1, .bool (item k).2]).foldl (fun t (p, v) => t.setIfInBounds p v) a.tmps, defers := [] } W)
    (hbody : ∀ (l k : Nat) (W : World), I k W → body.wpIn (F.inRound l) (n - 1 - 1) P (fun e _ W' => endPost n₀ id I Ix k W e W') (a₁ k) W)
    (hstop : ∀ (D k : Nat) (W : World), w.heap.size ≤ D → Ix (k + 1) W → W.heap[D]? = some (.deferred (some [])) → (Code.exit id).wpIn F n P Q { a with defers := { target := .collected D, args := #[] } :: a.defers } W) :
    (Code.rangeFunc g ps assign body).wpIn F n P Q a w := by
  apply wpIn_rangeFunc
  intro fn hfn
  rw [hro]
  -- the two blocks of the loop's books: D (deferred calls), D + 1 (the record R)
  let R : LoopState → Option Code → Loop := fun st pe => { state := st, pending := pe, fn, tmps := a.tmps, params := ps, assign, body, defers := w.heap.size }
  let Bk : LoopState → Option Code → World → Prop := fun st pe W => W.heap[w.heap.size + 1]? = some (.loop (R st pe)) ∧ W.heap[w.heap.size]? = some (.deferred (some []))
  have put : ∀ {st st' pe pe'} {W : World}, Bk st pe W → Bk st' pe' (W.putObj (w.heap.size + 1) (.loop (R st' pe'))) := fun hb =>
    ⟨World.putObj_heap_same (Array.getElem?_eq_some_iff.1 hb.1).1, (World.putObj_heap_other (by omega)).trans hb.2⟩
  have cell : ∀ {st pe} {W : World} (v : Value), Bk st pe W → Bk st pe (W.setCell ⟨mb, 0, none⟩ v) := fun v hb =>
    ⟨(Below.heap_setCell _ _ _ _ (by simp; omega)).trans hb.1, (Below.heap_setCell _ _ _ _ (by simp; omega)).trans hb.2⟩
  have grow : ∀ {st pe} {W W' : World}, Bk st pe W → W.grownBy W' none → Bk st pe W' := fun hb hg' =>
    ⟨(hg'.block _ (Array.getElem?_eq_some_iff.1 hb.1).1 (by simp)).trans hb.1, (hg'.block _ (Array.getElem?_eq_some_iff.1 hb.2).1 (by simp)).trans hb.2⟩
  have keep : ∀ {st pe} {W W' : World}, Bk st pe W → KeepsOthers W W' → Bk st pe W' := fun hb hk => ⟨hk.same _ _ hb.1 rfl, hk.same _ _ hb.2 rfl⟩
  obtain ⟨W1, hW1⟩ : ∃ W1, (w.alloc (.deferred (some []))).alloc (.loop (R .ready none)) = W1 := ⟨_, rfl⟩
  have hbk : Bk .ready none W1 := by
    rw [← hW1]
    exact ⟨heap_new' _ _ _ (by simp), heap_old _ (heap_alloc_new _ _)⟩
  have hI1 : I 0 W1 := by rw [← hW1]; exact hI.alloc _ (hI.alloc _ h0)
  have hbel : Below w0.heap.size w0 W1 := by
    rw [← hW1]; exact belowA (belowA hb0 _) _
  refine ⟨w.heap.size + 1, [{ target := .collected w.heap.size, args := #[] }], W1, { target := .fn (.func gf) lb, args := #[.func (.yield (w.heap.size + 1)) #[] #[]] }, W1, gf, #[.func (.yield (w.heap.size + 1)) #[] #[]] ++ lb, W1, ?_, ?_, ?_, ?_, fun _ => h1, ?_⟩
  · rw [← hW1]; exact run_enterLoop_outer _ _ _ _ _
  · simp only [resolve, hg]
    simp [go_sem]
  · intro f' hf'
    simp [Target.leads] at hf'
    exact hf' ▸ hFg
  · simp [invoke, go_sem, eg]
  refine (hseq (w.heap.size + 1) (fun k W => I k W ∧ Bk .ready none W) (fun k W => Ix k W ∧ Bk .done (some (.exit id)) W) W1 hbel (fun k W h => hIN k W h.1) (fun k W v h => ⟨hIm k W v h.1, cell v h.2⟩)
    (fun k A B h hg' => ⟨hI k A B none h.1 hg' (fun r e => by cases e), grow h.2 hg'⟩) ?_ ⟨hI1, hbk⟩).mono ?_
  · rintro k W ⟨hi, hb⟩
    refine ⟨fn, _, assign, body, run_yield (r := R .ready none) hb.1 (by simpa using hps.symm), roundIn_of_wpIn hfn (hassign _ k W _ ⟨_, run_beginRound (r := R .ready none) hb.1 rfl, ?_⟩)⟩
    have hb2 : Bk .busy none (W.putObj (w.heap.size + 1) (.loop (R .busy none))) := put hb
    refine wpIn_mono (hbody _ k _ (hI.putObj _ hi (by omega) hb.1 rfl)) ?_
    have hw2 : Below n₀ W (W.putObj (w.heap.size + 1) (.loop (R .busy none))) := belowK_b hn₀ _ _ _ _ (by omega) hb.1 rfl rfl
    rintro e a3 W3 (⟨rfl, hk3, hkp, hi3⟩ | ⟨rfl, hk3, hi3⟩)
    · have hb3 : Bk .busy none W3 := keep hb2 hk3
      exact ⟨_, _, run_endRound (r := R .busy none) none hb3.1, .inl ⟨rfl, ⟨hI.putObj _ hi3 (by omega) hb3.1 rfl, put (st' := .ready) (pe' := none) hb3⟩, (hw2.trans hkp).trans (belowK_b hn₀ _ _ _ _ (by omega) hb3.1 rfl rfl)⟩⟩
    · have hb3 : Bk .busy none W3 := keep hb2 hk3
      exact ⟨_, _, run_endRound (r := R .busy none) (some (.exit id)) hb3.1, .inr ⟨rfl, hIx.putObj _ hi3 (by omega) hb3.1 rfl, put (st' := .done) (pe' := some (.exit id)) hb3⟩⟩
  · rintro e W2 ⟨⟨v, rfl⟩, k, hi, hb⟩
    exact ⟨some (.exit id), _, run_endLoop (r := R .done (some (.exit id))) hb.1 (by simp [R]), hstop _ k _ (Nat.le_refl _) (hIx.putObj _ hi (by omega) hb.1 rfl) ((World.putObj_heap_other (by omega)).trans hb.2)⟩
end Go.Proofs.YtekbfommnmikbaaGreatDoor
/- Package real: the digits taken of an iterator. -/
namespace Go.Proofs.YtekbfommnmikbaaGreatDoor
set_option linter.unusedVariables false
set_option linter.unusedSimpArgs false
open Go.RowKit Go.Shelf
attribute [local go_sem] Oper.semAt_some

/-- The first k digits of an iterator. -/
def firsts (item : Nat → Int × Bool) (k : Nat) : List Int := (List.range k).map fun i => (item i).1
theorem firsts_length (item : Nat → Int × Bool) (k : Nat) : (firsts item k).length = k := by simp [firsts]
theorem firsts_succ (item : Nat → Int × Bool) (k : Nat) : firsts item (k + 1) = firsts item k ++ [(item k).1] := by simp [firsts, List.range_succ]
/-- What was left behind the last one. -/
def lastMore (item : Nat → Int × Bool) : Nat → Bool
  | 0 => false
  | k + 1 => (item k).2

theorem Kb.grown {mb : Nat} {w A B : World} {row : Option Nat} (h : Kb mb w A) (hg : A.grownBy B row) (hr : ∀ r, row = some r → w.heap.size ≤ r) : Kb mb w B :=
  ⟨hg.os.trans h.os, hg.tape.trans h.tape, hg.output.trans h.output, Nat.le_trans h.size hg.size, fun g hg2 hB => (hg.block g (Nat.lt_of_lt_of_le hg2 h.size) (fun e => by have := hr g e.symm; omega)).trans (h.block g hg2 hB)⟩
theorem Kb.setF {mb : Nat} {w A : World} (h : Kb mb w A) {B i : Nat} (hB : w.heap.size ≤ B) (v : Value) : Kb mb w (A.setCell ⟨B, i, none⟩ v) := h.trans' ((Below.refl w.heap.size A).setCell (p := ⟨B, i, none⟩) hB v) (Nat.le_refl _)

/-- What holds after k rounds. -/
structure TK (item : Nat → Int × Bool) (many mb b0 base : Nat) (w : World) (k : Nat) (V : World) : Prop where
  box : ∃ v, V.heap[b0 + 1]? = some (.cells #[v] 93 (0, 0)) ∧ V.ownsRow base 5 1 v k ((firsts item k).map (Value.int .u8))
  more : V.heap[b0 + 1 + 1]? = some (.cells #[.bool (lastMore item k)] 4 (0, 0))
  many : V.heap[b0]? = some (.cells #[.int .i64 (many : Int)] 3 (0, 0))
  kept : Kb mb w V
  size : base ≤ V.heap.size
theorem TK.own (item : Nat → Int × Bool) (many mb b0 base : Nat) (w : World) (hb : b0 + 3 ≤ base) (hw : w.heap.size ≤ base) : OwnFrom base (fun k V => TK item many mb b0 base w k V) := fun k X Y row h hg hr => by
  have hc : ∀ r, row = some r → ∃ o : Obj, X.heap[r]? = some o ∧ o.isCells = false := fun r e => (hr r e).2
  obtain ⟨v, h1, h2⟩ := h.box
  exact ⟨⟨v, heapKept h1 hg hc, own_kept h2 hg hc⟩, heapKept h.more hg hc, heapKept h.many hg hc, h.kept.grown hg (fun r e => Nat.le_trans hw (hr r e).1), Nat.le_trans h.size hg.size⟩
theorem TK.set {item : Nat → Int × Bool} {many mb b0 base : Nat} {w : World} {k : Nat} {V : World} (h : TK item many mb b0 base w k V) (hm : mb < b0) (hb : b0 + 3 ≤ base) (v : Value) : TK item many mb b0 base w k (V.setCell ⟨mb, 0, none⟩ v) := by
  obtain ⟨u, h1, h2⟩ := h.box
  exact ⟨⟨u, (Below.heap_setCell _ _ _ _ (by simp; omega)).trans h1, own_setCell_other h2 ⟨mb, 0, none⟩ v (own_neB h2 (B := mb) (by omega))⟩, (Below.heap_setCell _ _ _ _ (by simp; omega)).trans h.more, (Below.heap_setCell _ _ _ _ (by simp; omega)).trans h.many, h.kept.trans (Kb.set mb 0 V v), by simpa using h.size⟩

set_option maxRecDepth 100000 in
set_option maxHeartbeats 4000000 in
theorem taken_in (gf : Nat) (lb : Array Value) (item : Nat → Int × Bool) (many mb : Nat) (w : World) (eg : ∀ args w, (callFunc gf args).run Tryz.prog w = .ok (.enter gf args) w) (hseq : Endless Fence.wide 5 Tryz.prog gf lb item w.heap.size mb many w) (hmb : mb < w.heap.size) (hit : ∀ k, 0 ≤ (item k).1 ∧ (item k).1 < 10) (h0 : 0 < many) (hmax : many ≤ 1000) :
    CallsIn Fence.wide 6 Tryz.prog 178 #[.int .i64 (many : Int), .func (.func gf) #[] lb] w fun en w' => ∃ A c, en = .returned (.tuple #[.slice A many c, .bool (lastMore item many)]) ∧ many ≤ c ∧ c ≤ 9223372036854775807 ∧ Row .u8 w' A (firsts item many) ∧ Kb mb w w' := by
  obtain ⟨W, hW, k0, k1, k2, hbel⟩ := bx3h w #[.int .i64 (many : Int)] #[.slice none 0 0] #[.bool false] 3 93 4
  have hsz : W.heap.size = w.heap.size + 3 := by rw [← hW]; simp
  have HK0 := Lib.hid k0; have HK1 := Lib.hid k1; have HK2 := Lib.hid k2; have HBEL := Lib.hid hbel; have HSZ := Lib.hid hsz
  have HSEQ := Lib.hid hseq; have HIT := Lib.hid hit
  clear k0 k1 k2 hbel hsz hseq hit
  refine callsIn_of_wp_marks Tryz.func178 rfl trivial ?_ rfl
  simp only [Tryz.ntmps178, List.size_toArray, List.length_cons, List.length_nil, Nat.reduceAdd, Nat.reduceSub, Array.replicate_succ, Array.replicate_zero, List.push_toArray, List.append_toArray, List.nil_append, List.cons_append]
  gi_wp2_with fail
  have hz := HSZ.out
  obtain ⟨I0, hi, hz0, hz1, hz3⟩ := info_parts info_byte
  have HI := Lib.hid (And.intro hi (And.intro hz0 (And.intro hz1 hz3)))
  clear hi hz0 hz1 hz3
  refine range_endless (n := 6) (id := 0) rfl (by decide) rfl trivial eg HSEQ.out HBEL.out (by omega) (by omega) rfl
    (fun k V => k < many ∧ TK item many mb w.heap.size W.heap.size w k V) (fun k V => k = many ∧ TK item many mb w.heap.size W.heap.size w k V)
    (fun k X Y row h hg hr => ⟨h.1, TK.own item many mb w.heap.size W.heap.size w (by omega) (by omega) k X Y row h.2 hg hr⟩)
    (fun k X Y row h hg hr => ⟨h.1, TK.own item many mb w.heap.size W.heap.size w (by omega) (by omega) k X Y row h.2 hg hr⟩)
    (fun k V v h => ⟨h.1, h.2.set hmb (by omega) v⟩) (fun k V h => h.1)
    ⟨h0, ⟨_, HK1.out, World.ownsRow_nil _ _ _ _⟩, HK2.out, HK0.out, Kb.of HBEL.out, Nat.le_refl _⟩
    (fun k => { tmps := (.int .i64 (many : Int) :: .func (.func gf) #[] lb :: .pointer (some ⟨w.heap.size, 0, none⟩) :: undef :: .pointer (some ⟨w.heap.size + 1, 0, none⟩) :: .pointer (some ⟨w.heap.size + 1 + 1, 0, none⟩) :: .int .u8 (item k).1 :: .bool (item k).2 :: .func (.func gf) #[] lb :: .int .u8 (item k).1 :: .bool (item k).2 :: undef :: undef :: undef :: undef :: undef :: undef :: undef :: undef :: undef :: undef :: undef :: []).toArray, defers := [] }) ?assign ?body ?stop
  case assign =>
    intro l k V K hK
    gi_wp2
    exact hK
  case body =>
    rintro l k V ⟨hk, hT⟩
    obtain ⟨v, ha, hown⟩ := hT.box
    obtain ⟨d0, d9⟩ := HIT.out k
    obtain ⟨⟨d, mo⟩, hd⟩ : ∃ x, item k = x := ⟨_, rfl⟩
    rw [hd] at d0 d9 ⊢
    have HD := Lib.hid hd
    dsimp only at d0 d9 ⊢
    have c0 := cell_of_heap ha 0; have c1 := cell_of_heap hT.more 0; have c2 := cell_of_heap hT.many 0
    simp at c0 c1 c2
    have HOW := Lib.hid hown; have HAX := Lib.hid ha; have HT := Lib.hid hT
    have hzV := hT.size
    have HCE : Hid (∀ (j : Nat) (o : Obj), v.ownBlock = some j → (V.alloc (.cells #[.int .u8 d] 5)).heap[j]? = some o → o.isCells = true) := fun j o hj ho => by
      rcases hown.2 with ⟨rfl, _⟩ | ⟨g, cap, cur, rfl, _, hh, _⟩
      · cases hj
      · cases hj
        rw [heap_old _ hh] at ho
        cases ho; rfl
    have HN0 := Lib.hid (own_neB hown (B := w.heap.size) (by omega)); have HN1 := Lib.hid (own_neB hown (B := w.heap.size + 1) (by omega)); have HN2 := Lib.hid (own_neB hown (B := w.heap.size + 1 + 1) (by omega))
    have a01 : ∀ o, (V.alloc o).cell? ⟨w.heap.size + 1, 0, none⟩ = some v := fun o => keep_cell ((Below.refl _ _).alloc (Nat.le_refl _) o) c0
    clear hd hT ha hown
    have HZV := Lib.hid hzV
    have fin : Hid (∀ (g9 cap9 : Nat) (w1 : World), w1.ownsRow W.heap.size 5 1 (.slice (some ⟨g9, 0, none⟩) (k + 1) cap9) (k + 1) ((firsts item k).map (Value.int .u8) ++ [.int .u8 d]) → (V.alloc (.cells #[.int .u8 d] 5)).grownBy w1 v.ownBlock → KeepsOthers V ((w1.setCell ⟨w.heap.size + 1, 0, none⟩ (.slice (some ⟨g9, 0, none⟩) (k + 1) cap9)).setCell ⟨w.heap.size + 1 + 1, 0, none⟩ (.bool mo)) ∧ Below w.heap.size V ((w1.setCell ⟨w.heap.size + 1, 0, none⟩ (.slice (some ⟨g9, 0, none⟩) (k + 1) cap9)).setCell ⟨w.heap.size + 1 + 1, 0, none⟩ (.bool mo)) ∧ TK item many mb w.heap.size W.heap.size w (k + 1) ((w1.setCell ⟨w.heap.size + 1, 0, none⟩ (.slice (some ⟨g9, 0, none⟩) (k + 1) cap9)).setCell ⟨w.heap.size + 1 + 1, 0, none⟩ (.bool mo))) := by
      intro g9 cap9 w1 hown1 hg1
      have hzV := HZV.out
      have hb1 : Below w.heap.size V w1 := ((Below.refl w.heap.size V).alloc (by omega) _).grown hg1 (by simp; omega) ((own_from HOW.out).mono (by omega))
      have hxa := grownB hg1 (heap_old _ HAX.out) HN1.out
      have hxm := grownB hg1 (heap_old _ HT.out.more) HN2.out
      have hx0 := grownB hg1 (heap_old _ HT.out.many) HN0.out
      have hbb := (hb1.setCell (p := ⟨w.heap.size + 1, 0, none⟩) (by simp) (.slice (some ⟨g9, 0, none⟩) (k + 1) cap9)).setCell (p := ⟨w.heap.size + 1 + 1, 0, none⟩) (by simp; omega) (.bool mo)
      refine ⟨(KeepsOthers.alloc V _).trans ((KeepsOthers.of_grownBy hg1 HCE.out).trans ((KeepsOthers.setCell _ _ _).trans (KeepsOthers.setCell _ _ _))), hbb, ⟨⟨.slice (some ⟨g9, 0, none⟩) (k + 1) cap9, ?_, ?_⟩, ?_, ?_, HT.out.kept.trans' hbb (Nat.le_refl _), Nat.le_trans hzV hbb.size⟩⟩
      · have := putB hxa 0 (.slice (some ⟨g9, 0, none⟩) (k + 1) cap9)
        exact (Below.heap_setCell _ _ _ _ (by simp)).trans (by simpa using this)
      · rw [firsts_succ, HD.out, List.map_append]
        have ho1 := own_setCell_other hown1 ⟨w.heap.size + 1, 0, none⟩ (.slice (some ⟨g9, 0, none⟩) (k + 1) cap9) (own_neB hown1 (B := w.heap.size + 1) (by omega))
        exact own_setCell_other ho1 ⟨w.heap.size + 1 + 1, 0, none⟩ (.bool mo) (own_neB ho1 (B := w.heap.size + 1 + 1) (by omega))
      · have := putB ((Below.heap_setCell w1 ⟨w.heap.size + 1, 0, none⟩ (.slice (some ⟨g9, 0, none⟩) (k + 1) cap9) (w.heap.size + 1 + 1) (by simp)).trans hxm) 0 (.bool mo)
        rw [lastMore, HD.out]
        simpa using this
      · exact (Below.heap_setCell _ _ _ _ (by simp; omega)).trans ((Below.heap_setCell _ _ _ _ (by simp)).trans hx0)
    have hk1 : k + 1 ≤ 1000 := by omega
    by_cases hkm : k + 1 = many
    · have hkm1 : (k : Int) + 1 = (many : Int) := by omega
      gi_wp2_with (gi_at_builtin; refine wpListIn_append_own _ rfl _ _ 93 rfl W.heap.size 5 I0 (.int .u8 0) 1 1 Tryz.underlying93 HI.out.1 HI.out.2.1 HI.out.2.2.1 HI.out.2.2.2 rfl (by decide) _ _ _ rfl (HOW.out.alloc _) ⟨V.heap.size, 0, none⟩ 1 1 [.int .u8 d] rfl rfl (cell_one_new _ _ _) (by simp [Value.oneCell']) (by unfold maxLen; omega) (by omega) (by simp; omega) ?_; intro v' w1 hown1 hgrow1 _; obtain ⟨g9, cap9, rfl⟩ := own_some' hown1 (by omega); have x1 := grownB hgrow1 (heap_old _ HAX.out) HN1.out; have x2 := grownB hgrow1 (heap_old _ HT.out.more) HN2.out; have x0 := grownB hgrow1 (heap_old _ HT.out.many) HN0.out; have y1 := cell_of_heap x1 0; have z1 := free_of_heap x1 0; have y2 := cell_of_heap x2 0; have z2 := free_of_heap x2 0; have y0 := cell_of_heap x0 0; have HF := Lib.hid (fin.out _ _ _ hown1 hgrow1); simp at y0 y1 y2; clear hown1 hgrow1 x0 x1 x2)
      have h9 := HF.out
      rw [hkm] at h9
      exact .inr ⟨rfl, h9.1, hkm, by rw [hkm]; exact h9.2.2⟩
    · have hkm1 : ¬ (k : Int) + 1 = (many : Int) := by omega
      have hkl : k + 1 < many := by omega
      gi_wp2_with (gi_at_builtin; refine wpListIn_append_own _ rfl _ _ 93 rfl W.heap.size 5 I0 (.int .u8 0) 1 1 Tryz.underlying93 HI.out.1 HI.out.2.1 HI.out.2.2.1 HI.out.2.2.2 rfl (by decide) _ _ _ rfl (HOW.out.alloc _) ⟨V.heap.size, 0, none⟩ 1 1 [.int .u8 d] rfl rfl (cell_one_new _ _ _) (by simp [Value.oneCell']) (by unfold maxLen; omega) (by omega) (by simp; omega) ?_; intro v' w1 hown1 hgrow1 _; obtain ⟨g9, cap9, rfl⟩ := own_some' hown1 (by omega); have x1 := grownB hgrow1 (heap_old _ HAX.out) HN1.out; have x2 := grownB hgrow1 (heap_old _ HT.out.more) HN2.out; have x0 := grownB hgrow1 (heap_old _ HT.out.many) HN0.out; have y1 := cell_of_heap x1 0; have z1 := free_of_heap x1 0; have y2 := cell_of_heap x2 0; have z2 := free_of_heap x2 0; have y0 := cell_of_heap x0 0; have HF := Lib.hid (fin.out _ _ _ hown1 hgrow1); simp at y0 y1 y2; clear hown1 hgrow1 x0 x1 x2)
      exact .inl ⟨rfl, HF.out.1, HF.out.2.1, hkl, HF.out.2.2⟩
  case stop =>
    rintro D k V hD ⟨hk, hT⟩ hK
    obtain ⟨v, ha, hown⟩ := hT.box
    rw [hk] at hown
    obtain ⟨A, c, rfl, hc1, hc2, hr, hrl⟩ := own_row hown
    have hcm : c ≤ 9223372036854775807 := by unfold maxLen at hc2; omega
    rw [firsts_length] at ha hown hc1
    have hmo := hT.more
    rw [hk] at hmo
    obtain ⟨mo, hmo2⟩ : ∃ mo, lastMore item many = mo := ⟨_, rfl⟩
    rw [hmo2] at hmo
    have HMO := Lib.hid hmo2
    have a1 := cell_of_heap ha 0; have a2 := cell_of_heap hmo 0; have z1 := free_of_heap ha 0; have z2 := free_of_heap hmo 0
    simp at a1 a2
    have HA := Lib.hid ha; have HM := Lib.hid hmo; have HR := Lib.hid hr; have HK := Lib.hid hK; have HC := Lib.hid (And.intro hc1 hcm); have HKB := Lib.hid hT.kept; have HFR := Lib.hid (own_from hown)
    have hzV := hT.size
    clear hk hT ha hown hc1 hc2 hr hrl hcm hmo hmo2 hK
    gi_wp2_with fail
    gi_region
    all_goals gi_wp2_with fail
    have hb1 := putB HA.out 0 (.slice A many c)
    have hb2 := putB ((Below.heap_setCell V ⟨w.heap.size + 1, 0, none⟩ (.slice A many c) (w.heap.size + 1 + 1) (by simp)).trans HM.out) 0 (.bool mo)
    obtain ⟨F, hF⟩ : ∃ F, ((V.setCell ⟨w.heap.size + 1, 0, none⟩ (.slice A many c)).setCell ⟨w.heap.size + 1 + 1, 0, none⟩ (.bool mo)).drew = F := ⟨_, rfl⟩
    have ho : ∀ g, g ≠ w.heap.size + 1 → g ≠ w.heap.size + 1 + 1 → F.heap[g]? = V.heap[g]? := fun g h1 h2 => by
      rw [← hF]; exact (Below.heap_setCell _ _ _ _ h2).trans (Below.heap_setCell _ _ _ _ h1)
    have hf1 : F.heap[w.heap.size + 1]? = some (.cells #[.slice A many c] 93 (0, 0)) := by
      rw [← hF]; exact (Below.heap_setCell _ _ _ _ (by simp)).trans (by simpa using hb1)
    have hf2 : F.heap[w.heap.size + 1 + 1]? = some (.cells #[.bool mo] 4 (0, 0)) := by
      rw [← hF]; exact (by simpa using hb2 : _)
    have hkb : Kb mb w F := by rw [← hF]; exact ((HKB.out.setF (by omega) _).setF (by omega) _).trans (Kb.drew _ _)
    rw [hF]
    have hK' : F.heap[D]? = some (.deferred (some [])) := (ho D (by omega) (by omega)).trans HK.out
    have hkr : ∀ r, some D = some r → ∃ o : Obj, F.heap[r]? = some o ∧ o.isCells = false := fun r e => by cases e; exact ⟨_, hK', rfl⟩
    have hg := grownBy_putObj' F D (.deferred none)
    have r1 := cell_of_heap (heapKept hf1 hg hkr) 0; have r2 := cell_of_heap (heapKept hf2 hg hkr) 0
    simp at r1 r2
    have hrow : Row .u8 F A (firsts item many) := HR.out.same fun a ha => ho _ (by have := HFR.out a.block (by rw [ha]; rfl); omega) (by have := HFR.out a.block (by rw [ha]; rfl); omega)
    refine ⟨by simp, .inl ⟨_, _, rfl, run_takeDeferred hK', ?_⟩⟩
    refine ⟨.tuple #[.slice A many c, .bool mo], ?_, A, c, by rw [HMO.out], HC.out.1, HC.out.2, row_kept hrow hg hkr, hkb.grown hg (fun r e => by cases e; omega)⟩
    simp [results, Tryz.results178, go_sem, r1, r2]
end Go.Proofs.YtekbfommnmikbaaGreatDoor
/- Package real: the digits of a quotient. -/
namespace Go.Proofs.YtekbfommnmikbaaGreatDoor
set_option linter.unusedVariables false
set_option linter.unusedSimpArgs false
open Go.RowKit Go.Shelf
attribute [local go_sem] Oper.semAt_some

/-- What is left of m behind k digits, times 10. -/
def qm (m n : Nat) : Nat → Nat
  | 0 => m
  | k + 1 => qm m n k % n * 10
def qitem (m n k : Nat) : Int × Bool := (((qm m n k / n : Nat) : Int), ((qm m n k % n : Nat) : Int) != 0)
theorem qm_lt {m n : Nat} (hn : 0 < n) (hm : m < 10 * n) : ∀ k, qm m n k < 10 * n
  | 0 => hm
  | k + 1 => by show qm m n k % n * 10 < 10 * n; have := Nat.mod_lt (qm m n k) hn; omega
theorem qitem_dig {m n : Nat} (hn : 0 < n) (hm : m < 10 * n) (k : Nat) : 0 ≤ (qitem m n k).1 ∧ (qitem m n k).1 < 10 := by
  have h : qm m n k / n < 10 := by rw [Nat.div_lt_iff_lt_mul hn]; exact qm_lt hn hm k
  obtain ⟨c, hc⟩ : ∃ c, qm m n k / n = c := ⟨_, rfl⟩
  rw [hc] at h
  unfold qitem
  rw [hc]
  exact ⟨Int.natCast_nonneg c, by show (c : Int) < 10; omega⟩
theorem grown_drewA (w : World) (row : Option Nat) : w.grownBy w.drew row := ⟨rfl, rfl, rfl, Nat.le_refl _, fun _ _ _ => rfl⟩

set_option maxRecDepth 100000 in
set_option maxHeartbeats 4000000 in
theorem quo1_endless (m n mb nb n₀ N : Nat) (w : World) (hn : 0 < n) (hm : m < 10 * n) (hn2 : n < 1000000000000) (hmb : mb < n₀) (hnb : nb < n₀) (hne : mb ≠ nb) (hsz : n₀ ≤ w.heap.size) (hc0 : w.heap[mb]? = some (.cells #[.int .i64 (m : Int)] 3 (0, 0))) (hc1 : w.heap[nb]? = some (.cells #[.int .i64 (n : Int)] 3 (0, 0))) :
    Endless Fence.wide 5 Tryz.prog 218 #[.pointer (some ⟨mb, 0, none⟩), .pointer (some ⟨nb, 0, none⟩)] (qitem m n) n₀ mb N w := by
  intro l J Jx W hWb hJN hJs hJg hJy hJ0
  have HQL := Lib.hid (qm_lt hn hm)
  have HY := Lib.hid hJy; have HJN := Lib.hid hJN; have HJS := Lib.hid hJs; have HJG := Lib.hid hJg
  have HW0 := Lib.hid ((hWb.block mb (by omega)).trans hc0); have HW1 := Lib.hid ((hWb.block nb (by omega)).trans hc1)
  clear hJy hJN hJs hJg hWb hc0 hc1
  refine callsIn_of_wp Tryz.func218 rfl trivial ?_ rfl
  simp only [Tryz.ntmps218, List.size_toArray, List.length_cons, List.length_nil, Nat.reduceAdd, Nat.reduceSub, Array.replicate_succ, Array.replicate_zero, List.push_toArray, List.append_toArray, List.nil_append, List.cons_append]
  gi_wp2_with fail
  gi_loopg [] N (fun g wr => ∃ k : Nat, k + g = N ∧ Hid (J k wr) ∧ Hid (wr.heap[mb]? = some (.cells #[.int .i64 (qm m n k : Int)] 3 (0, 0))) ∧ Hid (wr.heap[nb]? = some (.cells #[.int .i64 (n : Int)] 3 (0, 0))))
  case atStart => exact ⟨0, by omega, hJ0, HW0.out, HW1.out⟩
  case round =>
    obtain ⟨k, hk, HJ, HM, HN⟩ := hrel
    have HK := Lib.hid hk
    have hkN := HJN.out k wr HJ.out
    have c0 := cell_of_heap HM.out 0; have c1 := cell_of_heap HN.out 0
    simp at c0 c1
    obtain ⟨q, hq⟩ : ∃ q, qm m n k = q := ⟨_, rfl⟩
    rw [hq] at c0
    have HQ := Lib.hid hq
    have hq10 : q < 10 * n := by rw [← hq]; exact HQL.out k
    have hqd : (q : Int).tdiv (n : Int) = ((q / n : Nat) : Int) := rfl
    have hqm : (q : Int).tmod (n : Int) = ((q % n : Nat) : Int) := rfl
    have hnn : ¬ n = 0 := by omega
    obtain ⟨fn, tmps, assign, body, hy, hR⟩ := HY.out k wr.drew (HJG.out k wr wr.drew HJ.out (grown_drewA _ _))
    clear hk hq
    have hit : qitem m n k = (((q / n : Nat) : Int), ((q % n : Nat) : Int) != 0) := by unfold qitem; rw [HQ.out]
    rw [hit] at hy
    dsimp only at hy
    have hd9 : q / n < 10 := by rw [Nat.div_lt_iff_lt_mul hn]; exact hq10
    obtain ⟨c, hc⟩ : ∃ c, q / n = c := ⟨_, rfl⟩
    rw [hc] at hy hqd hd9
    obtain ⟨r, hr⟩ : ∃ r, q % n = r := ⟨_, rfl⟩
    have hrn : r < n := by rw [← hr]; exact Nat.mod_lt q hn
    rw [hr] at hy hqm
    have HR := Lib.hid hr
    have hwc : IntKind.u8.wrap (c : Int) = (c : Int) := by rw [show IntKind.u8.wrap (c : Int) = (c : Int) % 256 from rfl]; omega
    have hwi : IntKind.i64.wrap (c : Int) = (c : Int) := IntWalk.i64_in _ (by omega)
    have HRR := Lib.hid hR
    clear hr hc hit hR
    gi_wp2_with fail
    gi_cut [13] from 4 (fun v wx => ∃ b, v = .bool b ∧ Hid (b = true → J (k + 1) wx ∧ Below n₀ wr.drew wx) ∧ Hid (b = false → Jx (k + 1) wx))
    case first =>
      gi_region_with (refine HRR.out.mono ?_; rintro e W3 he; obtain ⟨b, rfl, hbt, hbf⟩ : ∃ b, e = .returned (.bool b) ∧ (b = true → J (k + 1) W3 ∧ Below n₀ wr.drew W3) ∧ (b = false → Jx (k + 1) W3) := (by rcases he with ⟨rfl, h⟩ | ⟨rfl, h⟩; exact ⟨true, rfl, fun _ => h, fun h => (by cases h)⟩; exact ⟨false, rfl, fun h => (by cases h), fun _ => h⟩); have HBT := Lib.hid hbt; have HBF := Lib.hid hbf; clear he hbt hbf)
      all_goals
        gi_wp2_with fail
        gi_meet
        case rel => exact ⟨b, rfl, HBT.out, HBF.out⟩
    case rest =>
      obtain ⟨b, rfl, HBT, HBF⟩ := hcut
      cases b
      · have h9 := HBF.out rfl
        clear HBT HBF
        gi_wp2_with fail
        go_end0
        exact ⟨⟨_, rfl⟩, k, h9⟩
      obtain ⟨HJ1', HB1'⟩ := HBT.out rfl
      have HJ1 := Lib.hid HJ1'; have HB1 := Lib.hid HB1'
      clear HBT HBF HJ1' HB1'
      have hm1 := (HB1.out.block mb hmb).trans HM.out
      have hn1 := (HB1.out.block nb hnb).trans HN.out
      rw [HQ.out] at hm1
      have d0 := cell_of_heap hm1 0; have d1 := cell_of_heap hn1 0; have f0 := free_of_heap hm1 0
      have hrw : IntKind.i64.wrap ((r : Int) * 10) = (r : Int) * 10 := IntWalk.i64_in _ (by omega)
      simp at d0 d1
      have HM1 := Lib.hid hm1; have HN1 := Lib.hid hn1
      clear hm1 hn1
      gi_wp2_with fail
      go_roundg (gk - 1)
      case measure => have := HK.out; omega
      case rel =>
        refine ⟨k + 1, by have := HK.out; omega, HJS.out _ _ _ HJ1.out, ?_, (Below.heap_setCell _ _ _ _ (by simp; omega)).trans HN1.out⟩
        have := putB HM1.out 0 (.int .i64 ((r : Int) * 10))
        show _ = _
        rw [qm, HQ.out, HR.out]
        rw [show ((r * 10 : Nat) : Int) = (r : Int) * 10 by omega]
        simpa using this
end Go.Proofs.YtekbfommnmikbaaGreatDoor
