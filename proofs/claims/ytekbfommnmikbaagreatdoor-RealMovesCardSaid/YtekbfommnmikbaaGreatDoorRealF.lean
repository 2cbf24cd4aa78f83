/- Package real: columns. -/
import Derived.Test.YtekbfommnmikbaaGreatDoorRealE
import Derived.BigRegion
import Derived.StillTailTactics
namespace Go.Proofs.YtekbfommnmikbaaGreatDoor
set_option linter.unusedVariables false
set_option linter.unusedSimpArgs false
open Go.RowKit Go.Shelf Go.Proofs
attribute [local go_sem ↓] Go.wp_at_zero Go.wp_at_succ

/-- The columns t lie in block B. -/
def Cols (w : World) (B : Nat) (t : List Int) : Prop := w.heap[B]? = some (.cells (t.map (Value.int .i64)).toArray 173 (0, 0))
theorem Cols.cell {w : World} {B : Nat} {t : List Int} (h : Cols w B t) (i : Nat) (hi : i < t.length) : w.cell? ⟨B, i, none⟩ = some (.int .i64 (t[i]?.getD 0)) := by
  rw [cell_of_heap h, List.getElem?_toArray, List.getElem?_map, List.getElem?_eq_getElem hi]; rfl
theorem Cols.free {w : World} {B : Nat} {t : List Int} (h : Cols w B t) (i : Nat) : w.frozen? ⟨B, i, none⟩ = false := free_of_heap h i
theorem Cols.put {w : World} {B : Nat} {t : List Int} (h : Cols w B t) (i : Nat) (x : Int) : Cols (w.setCell ⟨B, i, none⟩ (.int .i64 x)) B (t.set i x) := by
  have := putB h i (.int .i64 x)
  unfold Cols
  rw [this]
  congr 2
  simp
theorem Cols.drew {w : World} {B : Nat} {t : List Int} (h : Cols w B t) : Cols w.drew B t := h
theorem Cols.zero (w : World) : Cols (w.alloc (.cells Tryz.zeroCells173 173)) w.heap.size (List.replicate 430 0) := by
  have e : Tryz.zeroCells173 = ((List.replicate 430 (0 : Int)).map (Value.int .i64)).toArray := by kernel_rfl
  unfold Cols
  rw [heap_alloc_new, e]

/-- All but block B is kept. -/
structure Kb (B : Nat) (w w' : World) : Prop where
  os : w'.os = w.os
  tape : w'.tape = w.tape
  output : w'.output = w.output
  size : w.heap.size ≤ w'.heap.size
  block : ∀ g, g < w.heap.size → g ≠ B → w'.heap[g]? = w.heap[g]?
theorem Kb.refl (B : Nat) (w : World) : Kb B w w := ⟨rfl, rfl, rfl, Nat.le_refl _, fun _ _ _ => rfl⟩
theorem Kb.trans {B : Nat} {a b c : World} (h : Kb B a b) (k : Kb B b c) : Kb B a c := ⟨k.os.trans h.os, k.tape.trans h.tape, k.output.trans h.output, Nat.le_trans h.size k.size, fun g hg hB => (k.block g (Nat.lt_of_lt_of_le hg h.size) hB).trans (h.block g hg hB)⟩
theorem Kb.set (B i : Nat) (w : World) (v : Value) : Kb B w (w.setCell ⟨B, i, none⟩ v) :=
  have h := (Below.refl B w).setCell (p := ⟨B, i, none⟩) (Nat.le_refl _) v
  ⟨h.os, h.tape, h.output, h.size, fun g _ hB => Below.heap_setCell _ _ _ _ hB⟩
theorem Kb.of {B : Nat} {w w' : World} (h : Below w.heap.size w w') : Kb B w w' := ⟨h.os, h.tape, h.output, h.size, fun g hg _ => h.block g hg⟩
theorem Kb.drew (B : Nat) (w : World) : Kb B w w.drew := Kb.of (Below.refl _ _).drew
theorem Kb.below {B : Nat} {w w' : World} (h : Kb B w w') (hB : B < w.heap.size) : Below B w w' := ⟨h.os, h.tape, h.output, h.size, fun g hg => h.block g (by omega) (by omega)⟩
theorem Kb.heap {B : Nat} {w w' : World} (h : Kb B w w') {g : Nat} {o : Obj} (hg : w.heap[g]? = some o) (hB : g ≠ B) : w'.heap[g]? = some o := (h.block g (Array.getElem?_eq_some_iff.1 hg).1 hB).trans hg
/-- Bytes lie in no columns. -/
theorem Kb.row {B : Nat} {w w' : World} {t : List Int} {A : Option Addr} {xs : List Int} (h : Kb B w w') (hc : Cols w B t) (hr : Row .u8 w A xs) : Row .u8 w' A xs := fun j hj => by
  obtain ⟨a, e, hc2⟩ := hr j hj
  refine ⟨a, e, ?_⟩
  have hlt := World.block_lt_of_cell? w _ hc2
  have hne : (a.add j).block ≠ B := fun e2 => by
    have h3 : w.cell? (a.add j) = (t.map (Value.int .i64)).toArray[(a.add j).off]? ∨ (a.add j).spot ≠ none := by
      rcases hs : (a.add j).spot with _ | s
      · left
        have e3 : a.add j = ⟨B, (a.add j).off, none⟩ := by rw [← e2, ← hs]
        conv => lhs; rw [e3]
        rw [cell_of_heap hc]
      · right; simp
    rcases h3 with h3 | h3
    · rw [hc2, List.getElem?_toArray, List.getElem?_map] at h3
      cases h4 : t[(a.add j).off]? with
      | none => rw [h4] at h3; cases h3
      | some x => rw [h4] at h3; simp at h3
    · unfold World.cell? at hc2
      rw [e2, hc] at hc2
      simp at hc2
  rw [World.cell?_of_block (w := w) (h.block _ hlt hne)]
  exact hc2
theorem at_take {l : List Int} {i : Nat} (h : i < l.length) {d : Int} (hd : l[i]?.getD 0 = d) : l.take (i + 1) = l.take i ++ [d] := by rw [← hd]; exact drop_take h

set_option maxRecDepth 100000 in
set_option maxHeartbeats 4000000 in
theorem enter_c (B : Nat) (t : List Int) (v : Value) (s : Bool) (ds : List Int) (e : Int) (more : Bool) (f : Int) (k : Nat) (M : Int) (w : World) (hB : B < w.heap.size) (hc : Cols w B t) (ht : t.length = 430) (hv : Amt w v s ds e more) (hi : InR 10 ds) (hk : e + 222 = (k : Int)) (hkl : k + ds.length ≤ 430)
    (hf : -9 ≤ f) (hf2 : f ≤ 9) (hM : TB M t) (hM0 : 0 ≤ M) (hM1 : M ≤ 1000000000) :
    Calls Tryz.prog 173 #[.pointer (some ⟨B, 0, none⟩), v, .int .i64 f] w fun en w' => en = .returned (.tuple #[]) ∧ ∃ t', Cols w' B t' ∧ t'.length = 430 ∧ val 10 t' = val 10 t + (if s then -f else f) * vd ds * 10 ^ k ∧ TB (M + 81 * (ds.length : Int)) t' ∧ Kb B w w' := by
  obtain ⟨A, c, rfl, hc1, hc2, hr⟩ := hv
  obtain ⟨L, hL⟩ : ∃ L, ds.length = L := ⟨_, rfl⟩
  rw [hL] at hkl hc1 ⊢
  have HL := Lib.hid hL
  obtain ⟨W, hW, k0, hbel, hsz⟩ : ∃ W, w.alloc (.cells #[.bool s, .slice A L c, .int .i64 e, .bool more] 95) = W ∧ W.heap[w.heap.size]? = some (.cells #[.bool s, .slice A L c, .int .i64 e, .bool more] 95 (0, 0)) ∧ Below w.heap.size w W ∧ W.heap.size = w.heap.size + 1 :=
    ⟨_, rfl, heap_alloc_new _ _, (Below.refl _ _).alloc (Nat.le_refl _) _, by simp⟩
  have c00 := cell_of_heap k0 0; have c01 := cell_of_heap k0 1; have c02 := cell_of_heap k0 2
  simp at c00 c01 c02
  have HCO : Hid (Cols W B t) := heapB hbel hc
  have HR := Lib.hid (hr.below hbel)
  have HK0 := Lib.hid k0; have HKB : Hid (Kb B w W) := Kb.of hbel
  have HT := Lib.hid ht; have HI := Lib.hid hi; have HM := Lib.hid hM
  obtain ⟨F, hF⟩ : ∃ F : Int, (if s then -f else f) = F := ⟨_, rfl⟩
  rw [hF]
  have hF1 : -9 ≤ F := by rw [← hF]; split <;> omega
  have hF2 : F ≤ 9 := by rw [← hF]; split <;> omega
  have HF := Lib.hid hF
  have HK := Lib.hid hk
  have hBW : B < w.heap.size := hB
  clear k0 hbel hr hc ht hi hM hF hL
  go_enter Tryz.func173, Tryz.ntmps173
  go_upto_if 10 with fail
  go_cut [2] from 11 to 12 (fun v wx => v = .int .i64 F ∧ wx = W)
  case first =>
    cases s
    · go_wp2_with fail
      go_meet
      exact ⟨by rw [← HF.out]; rfl, rfl⟩
    · go_wp2_with fail
      go_meet
      exact ⟨by rw [← HF.out]; rfl, rfl⟩
  case rest =>
    obtain ⟨rfl, rfl⟩ := hcut
    go_wp2_with fail
    go_loopg [16] L (fun g iv wr => ∃ (i : Nat) (t' : List Int), iv = .int .i64 (i : Int) ∧ i + g = L ∧ Hid (Cols wr B t' ∧ t'.length = 430) ∧ Hid (val 10 t' = val 10 t + F * vd (ds.take i) * 10 ^ (k + (L - i))) ∧ Hid (TB (M + 81 * (i : Int)) t') ∧ Hid (Kb B wc wr))
    case atStart => exact ⟨0, t, rfl, by omega, ⟨HCO.out, HT.out⟩, by show _ = _; simp [vd], by show TB _ _; have := HM.out; simpa using this, Kb.refl _ _⟩
    case round =>
      obtain ⟨i, t', rfl, hi, HC, HV, HTB, HW⟩ := hrel
      have HI2 := Lib.hid hi
      by_cases hiL : i < L
      · obtain ⟨a, rfl, hcell⟩ := (HW.out.row HCO.out HR.out) i (by rw [HL.out]; exact hiL)
        have hin := HI.out.at_ (by decide) i
        rw [List.getD_eq_getElem?_getD] at hin
        obtain ⟨d, hd⟩ : ∃ d, ds[i]?.getD 0 = d := ⟨_, rfl⟩
        rw [hd] at hcell hin
        have HD := Lib.hid hd
        have hin0 := hin.1
        have hin9 : d < 10 := hin.2
        obtain ⟨j, hj⟩ : ∃ j, k + (L - 1 - i) = j := ⟨_, rfl⟩
        have hj430 : j < 430 := by omega
        have HJ := Lib.hid hj
        have hje : e + 222 + (L : Int) - 1 - (i : Int) = (j : Int) := by have := HK.out; omega
        have hje2 : e - -222 + (L : Int) - 1 - (i : Int) = (j : Int) := by have := HK.out; omega
        have j0 : (0 : Int) ≤ (j : Int) := by omega
        have j1 : (j : Int) < 430 := by omega
        have hcj := HC.out.1.cell j (by rw [HC.out.2]; exact hj430)
        have hfj := HC.out.1.free j
        have htb := HTB.out.at_ (by omega) j
        obtain ⟨x, hx⟩ : ∃ x, t'[j]?.getD 0 = x := ⟨_, rfl⟩
        rw [hx] at hcj htb
        have HX := Lib.hid hx
        have htb0 := htb.1; have htb1 := htb.2
        have d00 := cell_of_heap (HW.out.heap HK0.out (by omega)) 0; have d01 := cell_of_heap (HW.out.heap HK0.out (by omega)) 1; have d02 := cell_of_heap (HW.out.heap HK0.out (by omega)) 2
        simp at d00 d01 d02
        have hfd1 : F * d ≤ 81 := by
          have h1 := Int.mul_le_mul_of_nonneg_right hF2 hin0
          omega
        have hfd0 : -81 ≤ F * d := by
          have h1 := Int.mul_le_mul_of_nonneg_right hF1 hin0
          omega
        have hwr : IntKind.i64.wrap d = d := IntWalk.i64_in _ (by omega)
        have hiL2 : (i : Int) < (L : Int) := by omega
        have hw1 : IntKind.i64.wrap (e - -222) = (k : Int) := by rw [show e - -222 = (k : Int) by omega]; exact IntWalk.i64_in _ (by omega)
        have hw2 : IntKind.i64.wrap ((k : Int) + (L : Int)) = (k : Int) + (L : Int) := IntWalk.i64_in _ (by omega)
        have hw3 : IntKind.i64.wrap ((k : Int) + (L : Int) - 1) = (k : Int) + (L : Int) - 1 := IntWalk.i64_in _ (by omega)
        have hw4 : IntKind.i64.wrap ((k : Int) + (L : Int) - 1 - (i : Int)) = (j : Int) := by rw [show (k : Int) + (L : Int) - 1 - (i : Int) = (j : Int) by omega]; exact IntWalk.i64_in _ (by omega)
        have hw5 : IntKind.i64.wrap (F * d) = F * d := IntWalk.i64_in _ (by omega)
        have hw6 : IntKind.i64.wrap (x + F * d) = x + F * d := IntWalk.i64_in _ (by omega)
        have HE := Lib.hid hje
        clear hi hj hx hd hin htb hje hje2
        go_wp2_with fail
        go_region
        go_wp2_with fail
        go_roundg (gk - 1)
        case measure => have := HI2.out; omega
        case rel =>
          refine ⟨i + 1, t'.set j (x + F * d), by go_num, by have := HI2.out; omega, ⟨(HC.out.1.put j _).drew, by rw [List.length_set]; exact HC.out.2⟩, ?_, ?_, (HW.out.trans (Kb.set B j wr _)).trans (Kb.drew _ _)⟩
          · have h1 := enter_step (t := t') (ds := ds) (k := k) (V0 := val 10 t) (f := F) HL.out hiL HD.out (by rw [HJ.out, HC.out.2]; exact hj430) HV.out
            rw [HJ.out, HX.out] at h1
            exact h1
          · exact HTB.out.set (by omega) j (by omega) (by omega)
      · obtain rfl : i = L := by omega
        clear hi
        go_wp2_with fail
        go_end0
        refine ⟨rfl, t', HC.out.1, HC.out.2, ?_, HTB.out, HKB.out.trans HW.out⟩
        have h1 := HV.out
        rw [Nat.sub_self, Nat.add_zero, List.take_of_length_le (by rw [HL.out]; exact Nat.le_refl _)] at h1
        exact h1

theorem cols_set {u t : List Int} {i : Nat} (hu : u.length = i) (hi : i < t.length) (y : Int) : (u ++ t.drop i).set i y = (u ++ [y]) ++ t.drop (i + 1) := by
  rw [List.set_append_right _ _ (by omega), hu, Nat.sub_self, List.drop_eq_getElem_cons hi, List.set_cons_zero, List.append_assoc]; rfl
theorem cols_at {u t : List Int} {i : Nat} (hu : u.length = i) (hi : i < t.length) : (u ++ t.drop i)[i]?.getD 0 = t[i]?.getD 0 := by
  rw [List.getElem?_append_right (by omega), hu, Nat.sub_self, List.getElem?_drop, Nat.add_zero]
/-- Go's division by 10, mended. -/
theorem floor10 (n : Int) : (n.tmod 10 < 0 → n.fdiv 10 = n.tdiv 10 - 1) ∧ (¬ n.tmod 10 < 0 → n.fdiv 10 = n.tdiv 10) := by
  have h1 := Int.mul_tdiv_add_tmod n 10
  have h2 := Int.mul_fdiv_add_fmod n 10
  have h3 : 0 ≤ n.fmod 10 := Int.fmod_nonneg_of_pos _ (by decide)
  have h4 : n.fmod 10 < 10 := Int.fmod_lt_of_pos _ (by decide)
  have h5 : -10 < n.tmod 10 ∧ n.tmod 10 < 10 := by
    rcases Int.le_total 0 n with h | h
    · obtain ⟨k, rfl⟩ := Int.eq_ofNat_of_zero_le h
      have : ((k : Int).tmod 10) = ((k % 10 : Nat) : Int) := rfl
      rw [this]; omega
    · obtain ⟨k, hk⟩ := Int.eq_ofNat_of_zero_le (show 0 ≤ -n by omega)
      obtain rfl : n = -(k : Int) := by omega
      have : ((k : Int).tmod 10) = ((k % 10 : Nat) : Int) := rfl
      rw [Int.neg_tmod, this]; omega
  constructor <;> intro <;> omega

set_option maxRecDepth 100000 in
set_option maxHeartbeats 4000000 in
theorem carry_c (B : Nat) (t : List Int) (M : Int) (w : World) (hB : B < w.heap.size) (hc : Cols w B t) (ht : t.length = 430) (hM : TB M t) (hM0 : 0 ≤ M) (hM1 : M ≤ 1000000000000) :
    Calls Tryz.prog 214 #[.pointer (some ⟨B, 0, none⟩)] w fun en w' => ∃ (o : Int) (u : List Int), en = .returned (.int .i64 o) ∧ Cols w' B u ∧ u.length = 430 ∧ InR 10 u ∧ val 10 u + 10 ^ 430 * o = val 10 t ∧ Kb B w w' := by
  have HC0 := Lib.hid hc; have HT := Lib.hid ht; have HM := Lib.hid hM
  clear hc ht hM
  go_enter Tryz.func214, Tryz.ntmps214
  go_wp2_with fail
  go_loopg [3, 6] 430 (fun g ov iv wr => ∃ (i : Nat) (o : Int) (u : List Int), iv = .int .i64 (i : Int) ∧ ov = .int .i64 o ∧ i + g = 430 ∧ Hid (u.length = i) ∧ Hid (InR 10 u) ∧ Hid (val 10 u + 10 ^ i * (o + val 10 (t.drop i)) = val 10 t) ∧ Hid (Cols wr B (u ++ t.drop i)) ∧ -(M + 1) ≤ o ∧ o ≤ M + 1 ∧ Hid (Kb B w wr))
  case atStart => exact ⟨0, 0, [], rfl, rfl, by omega, rfl, InR.nil 10, by show _ = _; simp [val], HC0.out, by omega, by omega, Kb.refl _ _⟩
  case round =>
    obtain ⟨i, o, u, rfl, rfl, hi, HU, HIU, HV, HC, ho1, ho2, HW⟩ := hrel
    have HI := Lib.hid hi
    by_cases hi4 : i < 430
    · have hit : i < t.length := by rw [HT.out]; exact hi4
      have hcj := HC.out.cell i (by rw [List.length_append, List.length_drop, HU.out]; omega)
      rw [cols_at HU.out hit] at hcj
      have hfj := HC.out.free i
      have htb := HM.out.at_ hM0 i
      have HCS := Lib.hid (fun n (hn : n = t[i]?.getD 0 + o) => carry_step hit HU.out HIU.out HV.out hn)
      obtain ⟨x, hx⟩ : ∃ x, t[i]?.getD 0 = x := ⟨_, rfl⟩
      rw [hx] at hcj htb HCS
      have htb0 := htb.1; have htb1 := htb.2
      obtain ⟨n, hn⟩ : ∃ n, x + o = n := ⟨_, rfl⟩
      have HS := HCS.out n hn.symm
      obtain ⟨f1, f2⟩ := floor10 n
      have hqr := Int.mul_tdiv_add_tmod n 10
      have hfm := Int.mul_fdiv_add_fmod n 10
      have hf0 : 0 ≤ n.fmod 10 := Int.fmod_nonneg_of_pos _ (by decide)
      have hf9 : n.fmod 10 < 10 := Int.fmod_lt_of_pos _ (by decide)
      obtain ⟨Q, hQ⟩ : ∃ Q, n.fdiv 10 = Q := ⟨_, rfl⟩
      rw [hQ] at HS f1 f2 hfm
      obtain ⟨q, hq⟩ : ∃ q, n.tdiv 10 = q := ⟨_, rfl⟩
      rw [hq] at f1 f2 hqr
      have hn1 : -(2 * M + 1) ≤ n := by omega
      have hn2 : n ≤ 2 * M + 1 := by omega
      have hQ1 : -(M + 1) ≤ Q := by omega
      have hQ2 : Q ≤ M + 1 := by omega
      have HST := Lib.hid HS
      have HN := Lib.hid hn
      have j0 : (0 : Int) ≤ (i : Int) := by omega
      have j1 : (i : Int) < 430 := by omega
      by_cases hneg : n.tmod 10 < 0
      · have hqQ : q - 1 = Q := (f1 hneg).symm
        have hq1 : -(M + 1) ≤ q := by omega
        have hq2 : q ≤ M + 2 := by omega
        have hdec : decide (n.tmod 10 < 0) = true := decide_eq_true hneg
        clear f1 f2 hqr hfm hf0 hf9 HS hi htb hx hQ HCS
        go_wp2_with fail
        go_roundg (gk - 1)
        case measure => have := HI.out; omega
        case rel =>
          refine ⟨i + 1, Q, u ++ [n - 10 * Q], by go_num, rfl, by have := HI.out; omega, by show _ = _; rw [List.length_append, HU.out]; rfl, HST.out.1, HST.out.2, ?_, hQ1, hQ2, HW.out.trans (Kb.set B i wr _)⟩
          have h1 := HC.out.put i (n - 10 * Q)
          rw [cols_set HU.out hit] at h1
          exact h1
      · have hqQ : q = Q := (f2 hneg).symm
        subst hqQ
        have hdec : decide (n.tmod 10 < 0) = false := decide_eq_false hneg
        clear f1 f2 hqr hfm hf0 hf9 HS hi htb hx hQ HCS
        go_wp2_with fail
        go_roundg (gk - 1)
        case measure => have := HI.out; omega
        case rel =>
          refine ⟨i + 1, q, u ++ [n - 10 * q], by go_num, rfl, by have := HI.out; omega, by show _ = _; rw [List.length_append, HU.out]; rfl, HST.out.1, HST.out.2, ?_, hQ1, hQ2, HW.out.trans (Kb.set B i wr _)⟩
          have h1 := HC.out.put i (n - 10 * q)
          rw [cols_set HU.out hit] at h1
          exact h1
    · obtain rfl : i = 430 := by omega
      clear hi
      go_wp2_with fail
      go_ret
      refine ⟨o, u, rfl, ?_, HU.out, HIU.out, carry_end HU.out HT.out HIU.out HV.out, HW.out⟩
      have h1 := HC.out
      rw [List.drop_eq_nil_of_le (by rw [HT.out]; exact Nat.le_refl _), List.append_nil] at h1
      exact h1
end Go.Proofs.YtekbfommnmikbaaGreatDoor
