/- Package real: the exact sum. -/
import Derived.Test.YtekbfommnmikbaaGreatDoorRealG
namespace Go.Proofs.YtekbfommnmikbaaGreatDoor
set_option linter.unusedVariables false
set_option linter.unusedSimpArgs false
open Go.RowKit Go.Shelf Go.Proofs
attribute [local go_sem ↓] Go.wp_at_zero Go.wp_at_succ

/-- A row of reals: two cells each. -/
def Reals (w : World) (A : Option Addr) (l : List (Int × Int)) : Prop := ∀ j, j < l.length → ∃ a, A = some a ∧ w.cell? (a.add (j * 2)) = some (.int .i64 (l[j]?.getD (0, 0)).1) ∧ w.cell? ((a.add (j * 2)).add 1) = some (.int .i64 (l[j]?.getD (0, 0)).2)
theorem Reals.below {w w' : World} {A : Option Addr} {l : List (Int × Int)} (h : Reals w A l) (hb : Below w.heap.size w w') : Reals w' A l := fun j hj => by
  obtain ⟨a, e, h1, h2⟩ := h j hj
  exact ⟨a, e, keep_cell hb h1, keep_cell hb h2⟩

/-- The exact sum, times 10^222. -/
def sumV : List (Int × Int) → Int
  | [] => 0
  | p :: l => p.1 * 10 ^ (p.2 + 222).toNat + sumV l
theorem sumV_snoc (l : List (Int × Int)) (p : Int × Int) : sumV (l ++ [p]) = sumV l + p.1 * 10 ^ (p.2 + 222).toNat := by
  induction l with
  | nil => simp [sumV]
  | cons q l ih => rw [List.cons_append, sumV, ih, sumV]; omega
theorem RV_abs {m e : Int} (h : RV m.natAbs e) : m.natAbs < 1000000000000 ∧ -111 ≤ e ∧ e ≤ 88 := by
  unfold RV at h
  omega
theorem sumV_abs {K : Nat} (hK : ∀ e : Int, e ≤ 88 → (e + 222).toNat ≤ K) : ∀ (l : List (Int × Int)), (∀ p ∈ l, RV p.1.natAbs p.2) → (sumV l).natAbs ≤ l.length * (1000000000000 * 10 ^ K)
  | [], _ => Nat.zero_le _
  | p :: l, h => by
    have h1 := sumV_abs hK l fun q hq => h q (List.mem_cons_of_mem _ hq)
    obtain ⟨a, b, c⟩ := RV_abs (h p (List.mem_cons_self ..))
    have h2 : (p.1 * 10 ^ (p.2 + 222).toNat).natAbs ≤ 1000000000000 * 10 ^ K := by
      rw [Int.natAbs_mul, Int.natAbs_pow]
      exact Nat.mul_le_mul (Nat.le_of_lt a) (Nat.pow_le_pow_right (by decide) (hK _ c))
    rw [sumV, List.length_cons, Nat.add_mul, Nat.one_mul]
    generalize 1000000000000 * 10 ^ K = P at *
    omega
theorem pow_room {K L n : Nat} (hK : K + 16 ≤ L) (hn : n ≤ 1000) : n * (1000000000000 * 10 ^ K) < 10 ^ L := by
  have h1 : 10 ^ (K + 16) ≤ 10 ^ L := Nat.pow_le_pow_right (by decide) hK
  refine Nat.lt_of_lt_of_le ?_ h1
  rw [Nat.pow_add]
  have hp : 0 < 10 ^ K := Nat.pow_pos (by decide)
  generalize 10 ^ K = P at *
  have h2 := Nat.mul_le_mul_right (1000000000000 * P) hn
  omega
theorem sumV_room {l : List (Int × Int)} (h : ∀ p ∈ l, RV p.1.natAbs p.2) (hl : l.length ≤ 1000) : -(10 ^ 430) < sumV l ∧ sumV l < 10 ^ 430 := by
  have h1 := sumV_abs (K := 310) (by omega) l h
  have h2 := pow_room (K := 310) (L := 430) (by decide) hl
  have h3 : ((10 ^ 430 : Nat) : Int) = (10 : Int) ^ 430 := Int.natCast_pow 10 430
  rw [← h3]
  generalize (10 : Nat) ^ 430 = P at *
  generalize l.length * (1000000000000 * 10 ^ 310) = Q at *
  omega
theorem dgR_len {m : Int} {e : Int} (h : RV m.natAbs e) : (dg 10 m.natAbs).reverse.length ≤ 12 := by
  rw [List.length_reverse]
  exact (nd_le m.natAbs 12).2 (by have := (RV_abs h).1; omega)
theorem inR_dgR (n : Nat) : InR 10 (dg 10 n).reverse := inR_reverse (dg_inR (by decide) n)
/-- One real is entered. -/
theorem enter_real (m : Int) (P : Int) : (if decide (m < 0) = true then -1 else 1) * vd (dg 10 m.natAbs).reverse * P = m * P := by
  rw [vd_dg]
  by_cases h : m < 0
  · rw [if_pos (decide_eq_true h)]; congr 1; omega
  · rw [if_neg (by simpa using h)]; congr 1; omega

/-- Bytes lie in no box of other things. -/
theorem row_off {w F : World} {A : Option Addr} {xs : List Int} {B : Nat} {cs : Array Value} {t : TypeId} {fz : Nat × Nat} (h : Row .u8 w A xs) (hb : w.heap[B]? = some (.cells cs t fz)) (hn : ∀ (i : Nat) (x : Int), cs[i]? ≠ some (.int .u8 x)) (ho : ∀ g, g ≠ B → F.heap[g]? = w.heap[g]?) : Row .u8 F A xs := fun j hj => by
  obtain ⟨a, e, hc2⟩ := h j hj
  refine ⟨a, e, ?_⟩
  have hne : (a.add j).block ≠ B := fun e2 => by
    rcases hs : (a.add j).spot with _ | s
    · have e3 : a.add j = ⟨B, (a.add j).off, none⟩ := by rw [← e2, ← hs]
      rw [e3, cell_of_heap hb] at hc2
      exact hn _ _ hc2
    · unfold World.cell? at hc2
      rw [e2, hb, hs] at hc2
      simp at hc2
  rw [World.cell?_of_block (w := w) (ho _ hne)]
  exact hc2
theorem amt_cells {s more : Bool} {n c : Nat} {A : Option Addr} {e : Int} (i : Nat) (x : Int) : (#[.bool s, .slice A n c, .int .i64 e, .bool more] : Array Value)[i]? ≠ some (.int .u8 x) := by
  rcases i with _ | _ | _ | _ | i <;> simp

theorem drop_take' {α : Type} {l : List α} {i : Nat} (h : i < l.length) {d x : α} (hd : l[i]?.getD x = d) : l.take (i + 1) = l.take i ++ [d] := by
  rw [List.take_add_one, ← hd, List.getElem?_eq_getElem h]; rfl

set_option maxRecDepth 100000 in
set_option maxHeartbeats 4000000 in
theorem sum_c (A : Option Addr) (c : Nat) (l : List (Int × Int)) (w : World) (hr : Reals w A l) (hv : ∀ p ∈ l, RV p.1.natAbs p.2) (hl : l.length ≤ 1000) :
    Calls Tryz.prog 110 #[.slice A l.length c] w fun en w' => ∃ v ds, en = .returned v ∧ Amt w' v (decide (sumV l < 0)) ds (-222) false ∧ InR 10 ds ∧ vd ds = ((sumV l).natAbs : Int) ∧ ds.length = 430 ∧ Below w.heap.size w w' := by
  have HR := Lib.hid hr; have HV := Lib.hid hv; have HRM := Lib.hid (sumV_room hv hl)
  obtain ⟨L, hL⟩ : ∃ L, l.length = L := ⟨_, rfl⟩
  rw [hL] at hl ⊢
  have HL := Lib.hid hL
  obtain ⟨W, hW, k0, k1, hbel, hsz⟩ := bx2h w #[.bool false, .slice none 0 0, .int .i64 0, .bool false] Tryz.zeroCells173 95 173
  have HC : Hid (Cols W (w.heap.size + 1) (List.replicate 430 0)) := by
    have h1 := Cols.zero (w.alloc (.cells #[.bool false, .slice none 0 0, .int .i64 0, .bool false] 95))
    rw [hW] at h1
    have h2 : (w.alloc (.cells #[.bool false, .slice none 0 0, .int .i64 0, .bool false] 95)).heap.size = w.heap.size + 1 := by simp
    rw [h2] at h1
    exact h1
  have HK0 := Lib.hid k0; have HBEL := Lib.hid hbel; have HSZ := Lib.hid hsz
  have HRW := Lib.hid (hr.below hbel)
  clear k0 k1 hbel hsz hr hv hL
  go_enter Tryz.func110, Tryz.ntmps110
  go_wp2_with fail
  go_loopg [8] L (fun g iv wr => ∃ (i : Nat) (t : List Int), iv = .int .i64 (i : Int) ∧ i + g = L ∧ Hid (Cols wr (w.heap.size + 1) t) ∧ Hid (t.length = 430) ∧ Hid (val 10 t = sumV (l.take i)) ∧ Hid (TB (972 * (i : Int)) t) ∧ Hid (Kb (w.heap.size + 1) W wr))
  case atStart => exact ⟨0, _, rfl, by omega, HC.out, by show _ = _; simp, by show _ = _; rw [List.take_zero]; exact val_replicate 10 430, by show TB _ _; exact TB.zeros 430, Kb.refl _ _⟩
  case round =>
    obtain ⟨i, t, rfl, hi, HCt, HLt, HVt, HTt, HW⟩ := hrel
    have HI := Lib.hid hi
    have hbW : Below (w.heap.size + 1) W wr := HW.out.below (by have := HSZ.out; omega)
    have HWB : Hid (Below w.heap.size w wr) := HBEL.out.trans (hbW.mono (by omega))
    have hzr : w.heap.size + 2 ≤ wr.heap.size := by have := HSZ.out; have := HW.out.size; omega
    by_cases hiL : i < L
    · obtain ⟨a, rfl, hc0, hc1⟩ := (HR.out.below HWB.out) i (by rw [HL.out]; exact hiL)
      have hmem : l[i]?.getD (0, 0) ∈ l := by rw [List.getElem?_eq_getElem (by rw [HL.out]; exact hiL)]; exact List.getElem_mem _
      have hrv := HV.out _ hmem
      obtain ⟨m, e, hme⟩ : ∃ m e, l[i]?.getD (0, 0) = (m, e) := ⟨_, _, rfl⟩
      rw [hme] at hc0 hc1 hrv
      dsimp only at hc0 hc1 hrv
      have hc1' : wr.cell? { block := (a.add (i * 2)).block, off := (a.add (i * 2)).off + 1, spot := none } = some (.int .i64 e) := hc1
      have HRV := Lib.hid hrv
      have HME := Lib.hid hme
      clear hi hmem hme hrv hbW
      go_upto_region 5 with fail
      have hal : Below wr.heap.size wr (wr.alloc (.cells #[.int .i64 m, .int .i64 e] 23)) := (Below.refl _ _).alloc (Nat.le_refl _) _
      have b0 : (wr.alloc (.cells #[.int .i64 m, .int .i64 e] 23)).cell? ⟨wr.heap.size, 0, none⟩ = some (.int .i64 m) := cell_of_heap (heap_alloc_new _ _) 0
      have b1 : (wr.alloc (.cells #[.int .i64 m, .int .i64 e] 23)).cell? ⟨wr.heap.size, 1, none⟩ = some (.int .i64 e) := cell_of_heap (heap_alloc_new _ _) 1
      obtain ⟨W1, hW1⟩ : ∃ W1, wr.alloc (.cells #[.int .i64 m, .int .i64 e] 23) = W1 := ⟨_, rfl⟩
      rw [hW1] at hal b0 b1 ⊢
      have HC1 := Lib.hid (heapB hal HCt.out)
      have HW1 := Lib.hid (HW.out.trans (Kb.of hal))
      have hz1 : w.heap.size + 2 ≤ W1.heap.size := Nat.le_trans hzr hal.size
      clear hW1 hal
      obtain ⟨K, hK⟩ : ∃ K : Nat, e + 222 = (K : Int) := ⟨(e + 222).toNat, by have := RV_abs HRV.out; omega⟩
      have HKK := Lib.hid hK
      have hm18 : m.natAbs < 10 ^ 18 := by have := (RV_abs HRV.out).1; omega
      have hrng : Hid (K + (dg 10 m.natAbs).reverse.length ≤ 430) := by have := RV_abs HRV.out; have := dgR_len HRV.out; show _ ≤ _; omega
      have hl81 : Hid (972 * (i : Int) + 81 * ((dg 10 m.natAbs).reverse.length : Int) ≤ 972 * ((i + 1 : Nat) : Int)) := by have := dgR_len HRV.out; show _ ≤ _; omega
      clear hK
      go_wp2_with (first
        | (go_at_call 87; refine (amountOf_c m e _ hm18).mono ?_; rintro en w' ⟨v, rfl, ha, hbz⟩; have HA := Lib.hid ha; have HBZ := Lib.hid hbz; have HC2 := Lib.hid (heapB hbz HC1.out); have hz2 : w.heap.size + 2 ≤ w'.heap.size := Nat.le_trans hz1 hbz.size; clear ha hbz)
        | (go_at_call 173; refine (enter_c (w.heap.size + 1) t _ _ _ e false 1 K (972 * (i : Int)) _ (by omega) HC2.out HLt.out HA.out (inR_dgR _) HKK.out hrng.out (by decide) (by decide) HTt.out (by omega) (by omega)).mono ?_; rintro en w3 ⟨rfl, t', hc3, hl3, hv3, ht3, hk3⟩; have HC3 := Lib.hid hc3; have HL3 := Lib.hid hl3; have HV3 := Lib.hid hv3; have HT3 := Lib.hid ht3; have HK3 := Lib.hid hk3; clear hc3 hl3 hv3 ht3 hk3))
      go_roundg (gk - 1)
      case measure => have := HI.out; omega
      case rel =>
        refine ⟨i + 1, t', by go_num, by have := HI.out; omega, HC3.out, HL3.out, ?_, HT3.out.mono hl81.out, (HW1.out.trans (Kb.of HBZ.out)).trans HK3.out⟩
        show _ = _
        rw [HV3.out, HVt.out, enter_real, drop_take' (by rw [HL.out]; exact hiL) HME.out, sumV_snoc]
        have : (e + 222).toNat = K := by have := HKK.out; omega
        rw [this]
    · obtain rfl : i = L := by omega
      clear hi hbW
      have HVS : Hid (val 10 t = sumV l) := by show _ = _; rw [HVt.out, List.take_of_length_le (by rw [HL.out]; exact Nat.le_refl _)]
      have HRN : Hid (-(10 ^ 430) < val 10 t ∧ val 10 t < 10 ^ 430) := by show _ ∧ _; rw [HVS.out]; exact HRM.out
      go_wp2_with (go_at_call 174; refine (total_c (w.heap.size + 1) t (972 * (i : Int)) _ (by omega) HCt.out HLt.out HTt.out (by omega) (by omega) HRN.out.1 HRN.out.2).mono ?_; rw [HVS.out]; rintro en w3 ⟨v, ds, rfl, ⟨A9, c9, rfl, hc9, hm9, hr9⟩, hi9, hv9, hl9, hk9⟩; have q := hk9.heap (HW.out.heap HK0.out (by omega)) (by omega); have q0 := cell_of_heap q 0; have q1 := cell_of_heap q 1; have q2 := cell_of_heap q 2; have q3 := cell_of_heap q 3; have y0 := free_of_heap q 0; have y1 := free_of_heap q 1; have y2 := free_of_heap q 2; have y3 := free_of_heap q 3; have HQ := Lib.hid q; have HC9 := Lib.hid (And.intro hc9 hm9); have HR9 := Lib.hid hr9; have HD9 := Lib.hid (And.intro hi9 (And.intro hv9 hl9)); have HK9 := Lib.hid hk9; simp at q0 q1 q2 q3; clear hc9 hm9 hr9 hi9 hv9 hl9 hk9 q)
      obtain ⟨s, hs⟩ : ∃ s, decide (sumV l < 0) = s := ⟨_, rfl⟩
      rw [hs]
      obtain ⟨F, hF, hb, hk, ho⟩ := amt_put (s := s) (n := ds.length) (c := c9) (A := A9) (e := -222) (more := false) HQ.out
      rw [hF]
      have r0 := cell_of_heap hb 0; have r1 := cell_of_heap hb 1; have r2 := cell_of_heap hb 2; have r3 := cell_of_heap hb 3
      simp at r0 r1 r2 r3
      refine bodyPost_ret (v := .agg #[.bool s, .slice A9 ds.length c9, .int .i64 (-222), .bool false]) (by simp [results, Tryz.results110, go_sem, r0, r1, r2, r3]) rfl ?_
      have hzr2 : w.heap.size < wr.heap.size := by omega
      exact ⟨_, ds, rfl, ⟨A9, c9, rfl, HC9.out.1, HC9.out.2, row_off HR9.out HQ.out amt_cells ho⟩, HD9.out.1, HD9.out.2.1, HD9.out.2.2, hk _ _ (Nat.le_refl _) (HWB.out.trans ((HK9.out.below (by omega)).mono (by omega)))⟩
end Go.Proofs.YtekbfommnmikbaaGreatDoor
