/- Texts of this claim, merged: RealH, RealI, RealJ, RealK, RealL, RealM, Root, RealN, RealO, RealP, RealQ, RealR, RealS, RealT. -/
import Derived.Test.YtekbfommnmikbaaGreatDoorU3
import Derived.RegionIn
import Derived.BigRegionIn
import Derived.Stop.RegionWithIn
import Derived.BigRegion
/- Package real: the exact sum. -/
namespace Go.Proofs.YtekbfommnmikbaaGreatDoor
set_option linter.unusedVariables false
set_option linter.unusedSimpArgs false
open Go.RowKit Go.Shelf Go.Proofs
attribute [local go_sem ↓] Go.wp_at_zero Go.wp_at_succ

/-- A row of reals: two cells each. -/
def Reals (w : World) (A : Option Addr) (l : List (Int × Int)) : Prop := ∀ j, j < l.length → ∃ a, A = some a ∧ w.cell? (a.add (j * 2)) = some (.int .i64 (l[j]?.getD (0, 0)).1) ∧ w.cell? ((a.add (j * 2)).add 1) = some (.int .i64 (l[j]?.getD (0, 0)).2)
theorem Reals.below {w w' : World} {A : Option Addr} {l : List (Int × Int)} (h : Reals w A l) (hb : Below w.heap.size w w') : Reals w' A l := fun j hj => by
  obtain ⟨a, e, h1, h2⟩ := h j hj
  exact ⟨a, e, keep_cell hb h1, keep_cell hb h2⟩

/-- The exact sum, times 10^222. -/
def sumV : List (Int × Int) → Int
  | [] => 0
  | p :: l => p.1 * 10 ^ (p.2 + 222).toNat + sumV l
theorem sumV_snoc (l : List (Int × Int)) (p : Int × Int) : sumV (l ++ [p]) = sumV l + p.1 * 10 ^ (p.2 + 222).toNat := by
  induction l with
  | nil => simp [sumV]
  | cons q l ih => rw [List.cons_append, sumV, ih, sumV]; omega
theorem RV_abs {m e : Int} (h : RV m.natAbs e) : m.natAbs < 1000000000000 ∧ -111 ≤ e ∧ e ≤ 88 := by
  unfold RV at h
  omega
theorem sumV_abs {K : Nat} (hK : ∀ e : Int, e ≤ 88 → (e + 222).toNat ≤ K) : ∀ (l : List (Int × Int)), (∀ p ∈ l, RV p.1.natAbs p.2) → (sumV l).natAbs ≤ l.length * (1000000000000 * 10 ^ K)
  | [], _ => Nat.zero_le _
  | p :: l, h => by
    have h1 := sumV_abs hK l fun q hq => h q (List.mem_cons_of_mem _ hq)
    obtain ⟨a, b, c⟩ := RV_abs (h p (List.mem_cons_self ..))
    have h2 : (p.1 * 10 ^ (p.2 + 222).toNat).natAbs ≤ 1000000000000 * 10 ^ K := by
      rw [Int.natAbs_mul, Int.natAbs_pow]
      exact Nat.mul_le_mul (Nat.le_of_lt a) (Nat.pow_le_pow_right (by decide) (hK _ c))
    rw [sumV, List.length_cons, Nat.add_mul, Nat.one_mul]
    generalize 1000000000000 * 10 ^ K = P at *
    omega
theorem pow_room {K L n : Nat} (hK : K + 16 ≤ L) (hn : n ≤ 1000) : n * (1000000000000 * 10 ^ K) < 10 ^ L := by
  have h1 : 10 ^ (K + 16) ≤ 10 ^ L := Nat.pow_le_pow_right (by decide) hK
  refine Nat.lt_of_lt_of_le ?_ h1
  rw [Nat.pow_add]
  have hp : 0 < 10 ^ K := Nat.pow_pos (by decide)
  generalize 10 ^ K = P at *
  have h2 := Nat.mul_le_mul_right (1000000000000 * P) hn
  omega
theorem sumV_room {l : List (Int × Int)} (h : ∀ p ∈ l, RV p.1.natAbs p.2) (hl : l.length ≤ 1000) : -(10 ^ 430) < sumV l ∧ sumV l < 10 ^ 430 := by
  have h1 := sumV_abs (K := 310) (by omega) l h
  have h2 := pow_room (K := 310) (L := 430) (by decide) hl
  have h3 : ((10 ^ 430 : Nat) : Int) = (10 : Int) ^ 430 := Int.natCast_pow 10 430
  rw [← h3]
  generalize (10 : Nat) ^ 430 = P at *
  generalize l.length * (1000000000000 * 10 ^ 310) = Q at *
  omega
theorem dgR_len {m : Int} {e : Int} (h : RV m.natAbs e) : (dg 10 m.natAbs).reverse.length ≤ 12 := by
  rw [List.length_reverse]
  exact (nd_le m.natAbs 12).2 (by have := (RV_abs h).1; omega)
theorem inR_dgR (n : Nat) : InR 10 (dg 10 n).reverse := inR_reverse (dg_inR (by decide) n)
/-- One real is entered. -/
theorem enter_real (m : Int) (P : Int) : (if decide (m < 0) = true then -1 else 1) * vd (dg 10 m.natAbs).reverse * P = m * P := by
  rw [vd_dg]
  by_cases h : m < 0
  · rw [if_pos (decide_eq_true h)]; congr 1; omega
  · rw [if_neg (by simpa using h)]; congr 1; omega

/-- Bytes lie in no box of other things. -/
theorem row_off {w F : World} {A : Option Addr} {xs : List Int} {B : Nat} {cs : Array Value} {t : TypeId} {fz : Nat × Nat} (h : Row .u8 w A xs) (hb : w.heap[B]? = some (.cells cs t fz)) (hn : ∀ (i : Nat) (x : Int), cs[i]? ≠ some (.int .u8 x)) (ho : ∀ g, g ≠ B → F.heap[g]? = w.heap[g]?) : Row .u8 F A xs := fun j hj => by
  obtain ⟨a, e, hc2⟩ := h j hj
  refine ⟨a, e, ?_⟩
  have hne : (a.add j).block ≠ B := fun e2 => by
    rcases hs : (a.add j).spot with _ | s
    · have e3 : a.add j = ⟨B, (a.add j).off, none⟩ := by rw [← e2, ← hs]
      rw [e3, cell_of_heap hb] at hc2
      exact hn _ _ hc2
    · unfold World.cell? at hc2
      rw [e2, hb, hs] at hc2
      simp at hc2
  rw [World.cell?_of_block (w := w) (ho _ hne)]
  exact hc2
theorem amt_cells {s more : Bool} {n c : Nat} {A : Option Addr} {e : Int} (i : Nat) (x : Int) : (#[.bool s, .slice A n c, .int .i64 e, .bool more] : Array Value)[i]? ≠ some (.int .u8 x) := by
  rcases i with _ | _ | _ | _ | i <;> simp

theorem drop_take' {α : Type} {l : List α} {i : Nat} (h : i < l.length) {d x : α} (hd : l[i]?.getD x = d) : l.take (i + 1) = l.take i ++ [d] := by
  rw [List.take_add_one, ← hd, List.getElem?_eq_getElem h]; rfl

set_option maxRecDepth 100000 in
set_option maxHeartbeats 4000000 in
theorem sum_c (A : Option Addr) (c : Nat) (l : List (Int × Int)) (w : World) (hr : Reals w A l) (hv : ∀ p ∈ l, RV p.1.natAbs p.2) (hl : l.length ≤ 1000) :
    Calls Tryz.prog 110 #[.slice A l.length c] w fun en w' => ∃ v ds, en = .returned v ∧ Amt w' v (decide (sumV l < 0)) ds (-222) false ∧ InR 10 ds ∧ vd ds = ((sumV l).natAbs : Int) ∧ ds.length = 430 ∧ Below w.heap.size w w' := by
  have HR := Lib.hid hr; have HV := Lib.hid hv; have HRM := Lib.hid (sumV_room hv hl)
  obtain ⟨L, hL⟩ : ∃ L, l.length = L := ⟨_, rfl⟩
  rw [hL] at hl ⊢
  have HL := Lib.hid hL
  obtain ⟨W, hW, k0, k1, hbel, hsz⟩ := bx2h w #[.bool false, .slice none 0 0, .int .i64 0, .bool false] Tryz.zeroCells173 95 173
  have HC : Hid (Cols W (w.heap.size + 1) (List.replicate 430 0)) := by
    have h1 := Cols.zero (w.alloc (.cells #[.bool false, .slice none 0 0, .int .i64 0, .bool false] 95))
    rw [hW] at h1
    have h2 : (w.alloc (.cells #[.bool false, .slice none 0 0, .int .i64 0, .bool false] 95)).heap.size = w.heap.size + 1 := by simp
    rw [h2] at h1
    exact h1
  have HK0 := Lib.hid k0; have HBEL := Lib.hid hbel; have HSZ := Lib.hid hsz
  have HRW := Lib.hid (hr.below hbel)
  clear k0 k1 hbel hsz hr hv hL
  go_enter Tryz.func110, Tryz.ntmps110
  go_wp2_with fail
  go_loopg [8] L (fun g iv wr => ∃ (i : Nat) (t : List Int), iv = .int .i64 (i : Int) ∧ i + g = L ∧ Hid (Cols wr (w.heap.size + 1) t) ∧ Hid (t.length = 430) ∧ Hid (val 10 t = sumV (l.take i)) ∧ Hid (TB (972 * (i : Int)) t) ∧ Hid (Kb (w.heap.size + 1) W wr))
  case atStart => exact ⟨0, _, rfl, by omega, HC.out, by show _ = _; simp, by show _ = _; rw [List.take_zero]; exact val_replicate 10 430, by show TB _ _; exact TB.zeros 430, Kb.refl _ _⟩
  case round =>
    obtain ⟨i, t, rfl, hi, HCt, HLt, HVt, HTt, HW⟩ := hrel
    have HI := Lib.hid hi
    have hbW : Below (w.heap.size + 1) W wr := HW.out.below (by have := HSZ.out; omega)
    have HWB : Hid (Below w.heap.size w wr) := HBEL.out.trans (hbW.mono (by omega))
    have hzr : w.heap.size + 2 ≤ wr.heap.size := by have := HSZ.out; have := HW.out.size; omega
    by_cases hiL : i < L
    · obtain ⟨a, rfl, hc0, hc1⟩ := (HR.out.below HWB.out) i (by rw [HL.out]; exact hiL)
      have hmem : l[i]?.getD (0, 0) ∈ l := by rw [List.getElem?_eq_getElem (by rw [HL.out]; exact hiL)]; exact List.getElem_mem _
      have hrv := HV.out _ hmem
      obtain ⟨m, e, hme⟩ : ∃ m e, l[i]?.getD (0, 0) = (m, e) := ⟨_, _, rfl⟩
      rw [hme] at hc0 hc1 hrv
      dsimp only at hc0 hc1 hrv
      have hc1' : wr.cell? { block := (a.add (i * 2)).block, off := (a.add (i * 2)).off + 1, spot := none } = some (.int .i64 e) := hc1
      have HRV := Lib.hid hrv
      have HME := Lib.hid hme
      clear hi hmem hme hrv hbW
      go_upto_region 5 with fail
      have hal : Below wr.heap.size wr (wr.alloc (.cells #[.int .i64 m, .int .i64 e] 23)) := (Below.refl _ _).alloc (Nat.le_refl _) _
      have b0 : (wr.alloc (.cells #[.int .i64 m, .int .i64 e] 23)).cell? ⟨wr.heap.size, 0, none⟩ = some (.int .i64 m) := cell_of_heap (heap_alloc_new _ _) 0
      have b1 : (wr.alloc (.cells #[.int .i64 m, .int .i64 e] 23)).cell? ⟨wr.heap.size, 1, none⟩ = some (.int .i64 e) := cell_of_heap (heap_alloc_new _ _) 1
      obtain ⟨W1, hW1⟩ : ∃ W1, wr.alloc (.cells #[.int .i64 m, .int .i64 e] 23) = W1 := ⟨_, rfl⟩
      rw [hW1] at hal b0 b1 ⊢
      have HC1 := Lib.hid (heapB hal HCt.out)
      have HW1 := Lib.hid (HW.out.trans (Kb.of hal))
      have hz1 : w.heap.size + 2 ≤ W1.heap.size := Nat.le_trans hzr hal.size
      clear hW1 hal
      obtain ⟨K, hK⟩ : ∃ K : Nat, e + 222 = (K : Int) := ⟨(e + 222).toNat, by have := RV_abs HRV.out; omega⟩
      have HKK := Lib.hid hK
      have hm18 : m.natAbs < 10 ^ 18 := by have := (RV_abs HRV.out).1; omega
      have hrng : Hid (K + (dg 10 m.natAbs).reverse.length ≤ 430) := by have := RV_abs HRV.out; have := dgR_len HRV.out; show _ ≤ _; omega
      have hl81 : Hid (972 * (i : Int) + 81 * ((dg 10 m.natAbs).reverse.length : Int) ≤ 972 * ((i + 1 : Nat) : Int)) := by have := dgR_len HRV.out; show _ ≤ _; omega
      clear hK
      go_wp2_with (first
        | (go_at_call 87; refine (amountOf_c m e _ hm18).mono ?_; rintro en w' ⟨v, rfl, ha, hbz⟩; have HA := Lib.hid ha; have HBZ := Lib.hid hbz; have HC2 := Lib.hid (heapB hbz HC1.out); have hz2 : w.heap.size + 2 ≤ w'.heap.size := Nat.le_trans hz1 hbz.size; clear ha hbz)
        | (go_at_call 173; refine (enter_c (w.heap.size + 1) t _ _ _ e false 1 K (972 * (i : Int)) _ (by omega) HC2.out HLt.out HA.out (inR_dgR _) HKK.out hrng.out (by decide) (by decide) HTt.out (by omega) (by omega)).mono ?_; rintro en w3 ⟨rfl, t', hc3, hl3, hv3, ht3, hk3⟩; have HC3 := Lib.hid hc3; have HL3 := Lib.hid hl3; have HV3 := Lib.hid hv3; have HT3 := Lib.hid ht3; have HK3 := Lib.hid hk3; clear hc3 hl3 hv3 ht3 hk3))
      go_roundg (gk - 1)
      case measure => have := HI.out; omega
      case rel =>
        refine ⟨i + 1, t', by go_num, by have := HI.out; omega, HC3.out, HL3.out, ?_, HT3.out.mono hl81.out, (HW1.out.trans (Kb.of HBZ.out)).trans HK3.out⟩
        show _ = _
        rw [HV3.out, HVt.out, enter_real, drop_take' (by rw [HL.out]; exact hiL) HME.out, sumV_snoc]
        have : (e + 222).toNat = K := by have := HKK.out; omega
        rw [this]
    · obtain rfl : i = L := by omega
      clear hi hbW
      have HVS : Hid (val 10 t = sumV l) := by show _ = _; rw [HVt.out, List.take_of_length_le (by rw [HL.out]; exact Nat.le_refl _)]
      have HRN : Hid (-(10 ^ 430) < val 10 t ∧ val 10 t < 10 ^ 430) := by show _ ∧ _; rw [HVS.out]; exact HRM.out
      go_wp2_with (go_at_call 174; refine (total_c (w.heap.size + 1) t (972 * (i : Int)) _ (by omega) HCt.out HLt.out HTt.out (by omega) (by omega) HRN.out.1 HRN.out.2).mono ?_; rw [HVS.out]; rintro en w3 ⟨v, ds, rfl, ⟨A9, c9, rfl, hc9, hm9, hr9⟩, hi9, hv9, hl9, hk9⟩; have q := hk9.heap (HW.out.heap HK0.out (by omega)) (by omega); have q0 := cell_of_heap q 0; have q1 := cell_of_heap q 1; have q2 := cell_of_heap q 2; have q3 := cell_of_heap q 3; have y0 := free_of_heap q 0; have y1 := free_of_heap q 1; have y2 := free_of_heap q 2; have y3 := free_of_heap q 3; have HQ := Lib.hid q; have HC9 := Lib.hid (And.intro hc9 hm9); have HR9 := Lib.hid hr9; have HD9 := Lib.hid (And.intro hi9 (And.intro hv9 hl9)); have HK9 := Lib.hid hk9; simp at q0 q1 q2 q3; clear hc9 hm9 hr9 hi9 hv9 hl9 hk9 q)
      obtain ⟨s, hs⟩ : ∃ s, decide (sumV l < 0) = s := ⟨_, rfl⟩
      rw [hs]
      obtain ⟨F, hF, hb, hk, ho⟩ := amt_put (s := s) (n := ds.length) (c := c9) (A := A9) (e := -222) (more := false) HQ.out
      rw [hF]
      have r0 := cell_of_heap hb 0; have r1 := cell_of_heap hb 1; have r2 := cell_of_heap hb 2; have r3 := cell_of_heap hb 3
      simp at r0 r1 r2 r3
      refine bodyPost_ret (v := .agg #[.bool s, .slice A9 ds.length c9, .int .i64 (-222), .bool false]) (by simp [results, Tryz.results110, go_sem, r0, r1, r2, r3]) rfl ?_
      have hzr2 : w.heap.size < wr.heap.size := by omega
      exact ⟨_, ds, rfl, ⟨A9, c9, rfl, HC9.out.1, HC9.out.2, row_off HR9.out HQ.out amt_cells ho⟩, HD9.out.1, HD9.out.2.1, HD9.out.2.2, hk _ _ (Nat.le_refl _) (HWB.out.trans ((HK9.out.below (by omega)).mono (by omega)))⟩
end Go.Proofs.YtekbfommnmikbaaGreatDoor
/- Package real: the exact product. -/
namespace Go.Proofs.YtekbfommnmikbaaGreatDoor
set_option linter.unusedVariables false
set_option linter.unusedSimpArgs false
open Go.RowKit Go.Shelf Go.Proofs
attribute [local go_sem ↓] Go.wp_at_zero Go.wp_at_succ

theorem RV_nd {m : Nat} {e : Int} (h : RV m e) : nd m = 0 ∨ nd m = 12 := by
  rcases h with ⟨rfl, -⟩ | ⟨h1, h2, -, -⟩
  · exact .inl nd_zero
  · exact .inr (nd_eq (k := 11) (by omega) (by omega))

end Go.Proofs.YtekbfommnmikbaaGreatDoor
/- An iterator without an end that keeps its state in a cell; a loop over it that leaves by break. -/
namespace Go.Proofs.YtekbfommnmikbaaGreatDoor
set_option linter.unusedVariables false
set_option linter.unusedSimpArgs false
open Go.RowKit Go.Shelf Go.Proofs

/-- The iterator: its k-th item; between two rounds it may write block mb; the body keeps what lies below n₀. -/
def Endless (F : Fence) (n : Nat) (P : Program) (gf : Nat) (lb : Array Value) (item : Nat → Int × Bool) (n₀ mb N : Nat) (w : World) : Prop :=
  ∀ (l : Nat) (J Jx : Nat → World → Prop) (W : World), Below w.heap.size w W →
    (∀ k W1, J k W1 → k < N) → (∀ k W1 v, J k W1 → J k (W1.setCell ⟨mb, 0, none⟩ v)) → (∀ k W1 W2, J k W1 → W1.grownBy W2 none → J k W2) →
    (∀ k W1, J k W1 → YieldAt F (n - 1) P l #[.int .u8 (item k).1, .bool (item k).2] W1 fun e W' => (e = .returned (.bool true) ∧ J (k + 1) W' ∧ Below n₀ W1 W') ∨ (e = .returned (.bool false) ∧ Jx (k + 1) W')) →
    J 0 W → CallsIn F n P gf (#[.func (.yield l) #[] #[]] ++ lb) W fun e W' => (∃ v, e = .returned v) ∧ ∃ k, Jx (k + 1) W'

/-- How a round ends. -/
def endPost (n₀ id : Nat) (I Ix : Nat → World → Prop) (k : Nat) (W : World) (e : Exit) (W' : World) : Prop :=
  (e = .normal ∧ KeepsOthers W W' ∧ Below n₀ W W' ∧ I (k + 1) W') ∨ (e = .exit id ∧ KeepsOthers W W' ∧ Ix (k + 1) W')

theorem range_endless {F : Fence} {n : Nat} {P : Program} {g : Operand} {ps : Array Tmp} {assign body : Code} {Q : Exit → Act → World → Prop} {a : Act} {w w0 : World} {gf : Nat} {lb : Array Value} {item : Nat → Int × Bool} {n₀ mb N id : Nat}
    (hro : F.round = none) (h1 : 1 ≤ n) (hg : a.eval g = .func (.func gf) #[] lb) (hFg : F.fn gf) (eg : ∀ args w, (callFunc gf args).run P w = .ok (.enter gf args) w)
    (hseq : Endless F (n - 1) P gf lb item n₀ mb N w0) (hb0 : Below w0.heap.size w0 w) (hn₀ : n₀ ≤ w.heap.size) (hmb : mb < w.heap.size) (hps : ps.size = 2)
    (I Ix : Nat → World → Prop) (hI : OwnFrom w.heap.size I) (hIx : OwnFrom w.heap.size Ix) (hIm : ∀ k W v, I k W → I k (W.setCell ⟨mb, 0, none⟩ v)) (hIN : ∀ k W, I k W → k < N) (h0 : I 0 w) (a₁ : Nat → Act)
    (hassign : ∀ (l k : Nat) (W : World) (K : Act → World → Prop), K (a₁ k) W → assign.wpIn (F.inRound l) (n - 1 - 1) P (Exit.then K (fun _ _ _ => False)) { tmps := (ps.zip #[.int .u8 (item k).1, .bool (item k).2]).foldl (fun t (p, v) => t.setIfInBounds p v) a.tmps, defers := [] } W)
    (hbody : ∀ (l k : Nat) (W : World), I k W → body.wpIn (F.inRound l) (n - 1 - 1) P (fun e _ W' => endPost n₀ id I Ix k W e W') (a₁ k) W)
    (hstop : ∀ (D k : Nat) (W : World), w.heap.size ≤ D → Ix (k + 1) W → W.heap[D]? = some (.deferred (some [])) → (Code.exit id).wpIn F n P Q { a with defers := { target := .collected D, args := #[] } :: a.defers } W) :
    (Code.rangeFunc g ps assign body).wpIn F n P Q a w := by
  apply wpIn_rangeFunc
  intro fn hfn
  rw [hro]
  -- the two blocks of the loop's books: D (deferred calls), D + 1 (the record R)
  let R : LoopState → Option Code → Loop := fun st pe => { state := st, pending := pe, fn, tmps := a.tmps, params := ps, assign, body, defers := w.heap.size }
  let Bk : LoopState → Option Code → World → Prop := fun st pe W => W.heap[w.heap.size + 1]? = some (.loop (R st pe)) ∧ W.heap[w.heap.size]? = some (.deferred (some []))
  have put : ∀ {st st' pe pe'} {W : World}, Bk st pe W → Bk st' pe' (W.putObj (w.heap.size + 1) (.loop (R st' pe'))) := fun hb =>
    ⟨World.putObj_heap_same (Array.getElem?_eq_some_iff.1 hb.1).1, (World.putObj_heap_other (by omega)).trans hb.2⟩
  have cell : ∀ {st pe} {W : World} (v : Value), Bk st pe W → Bk st pe (W.setCell ⟨mb, 0, none⟩ v) := fun v hb =>
    ⟨(Below.heap_setCell _ _ _ _ (by simp; omega)).trans hb.1, (Below.heap_setCell _ _ _ _ (by simp; omega)).trans hb.2⟩
  have grow : ∀ {st pe} {W W' : World}, Bk st pe W → W.grownBy W' none → Bk st pe W' := fun hb hg' =>
    ⟨(hg'.block _ (Array.getElem?_eq_some_iff.1 hb.1).1 (by simp)).trans hb.1, (hg'.block _ (Array.getElem?_eq_some_iff.1 hb.2).1 (by simp)).trans hb.2⟩
  have keep : ∀ {st pe} {W W' : World}, Bk st pe W → KeepsOthers W W' → Bk st pe W' := fun hb hk => ⟨hk.same _ _ hb.1 rfl, hk.same _ _ hb.2 rfl⟩
  obtain ⟨W1, hW1⟩ : ∃ W1, (w.alloc (.deferred (some []))).alloc (.loop (R .ready none)) = W1 := ⟨_, rfl⟩
  have hbk : Bk .ready none W1 := by
    rw [← hW1]
    exact ⟨heap_new' _ _ _ (by simp), heap_old _ (heap_alloc_new _ _)⟩
  have hI1 : I 0 W1 := by rw [← hW1]; exact hI.alloc _ (hI.alloc _ h0)
  have hbel : Below w0.heap.size w0 W1 := by
    rw [← hW1]; exact belowA (belowA hb0 _) _
  refine ⟨w.heap.size + 1, [{ target := .collected w.heap.size, args := #[] }], W1, { target := .fn (.func gf) lb, args := #[.func (.yield (w.heap.size + 1)) #[] #[]] }, W1, gf, #[.func (.yield (w.heap.size + 1)) #[] #[]] ++ lb, W1, ?_, ?_, ?_, ?_, fun _ => h1, ?_⟩
  · rw [← hW1]; exact run_enterLoop_outer _ _ _ _ _
  · simp only [resolve, hg]
    simp [go_sem]
  · intro f' hf'
    simp [Target.leads] at hf'
    exact hf' ▸ hFg
  · simp [invoke, go_sem, eg]
  refine (hseq (w.heap.size + 1) (fun k W => I k W ∧ Bk .ready none W) (fun k W => Ix k W ∧ Bk .done (some (.exit id)) W) W1 hbel (fun k W h => hIN k W h.1) (fun k W v h => ⟨hIm k W v h.1, cell v h.2⟩)
    (fun k A B h hg' => ⟨hI k A B none h.1 hg' (fun r e => by cases e), grow h.2 hg'⟩) ?_ ⟨hI1, hbk⟩).mono ?_
  · rintro k W ⟨hi, hb⟩
    refine ⟨fn, _, assign, body, run_yield (r := R .ready none) hb.1 (by simpa using hps.symm), roundIn_of_wpIn hfn (hassign _ k W _ ⟨_, run_beginRound (r := R .ready none) hb.1 rfl, ?_⟩)⟩
    have hb2 : Bk .busy none (W.putObj (w.heap.size + 1) (.loop (R .busy none))) := put hb
    refine wpIn_mono (hbody _ k _ (hI.putObj _ hi (by omega) hb.1 rfl)) ?_
    have hw2 : Below n₀ W (W.putObj (w.heap.size + 1) (.loop (R .busy none))) := belowK_b hn₀ _ _ _ _ (by omega) hb.1 rfl rfl
    rintro e a3 W3 (⟨rfl, hk3, hkp, hi3⟩ | ⟨rfl, hk3, hi3⟩)
    · have hb3 : Bk .busy none W3 := keep hb2 hk3
      exact ⟨_, _, run_endRound (r := R .busy none) none hb3.1, .inl ⟨rfl, ⟨hI.putObj _ hi3 (by omega) hb3.1 rfl, put (st' := .ready) (pe' := none) hb3⟩, (hw2.trans hkp).trans (belowK_b hn₀ _ _ _ _ (by omega) hb3.1 rfl rfl)⟩⟩
    · have hb3 : Bk .busy none W3 := keep hb2 hk3
      exact ⟨_, _, run_endRound (r := R .busy none) (some (.exit id)) hb3.1, .inr ⟨rfl, hIx.putObj _ hi3 (by omega) hb3.1 rfl, put (st' := .done) (pe' := some (.exit id)) hb3⟩⟩
  · rintro e W2 ⟨⟨v, rfl⟩, k, hi, hb⟩
    exact ⟨some (.exit id), _, run_endLoop (r := R .done (some (.exit id))) hb.1 (by simp [R]), hstop _ k _ (Nat.le_refl _) (hIx.putObj _ hi (by omega) hb.1 rfl) ((World.putObj_heap_other (by omega)).trans hb.2)⟩
end Go.Proofs.YtekbfommnmikbaaGreatDoor
/- Package real: the digits taken of an iterator. -/
namespace Go.Proofs.YtekbfommnmikbaaGreatDoor
set_option linter.unusedVariables false
set_option linter.unusedSimpArgs false
open Go.RowKit Go.Shelf
attribute [local go_sem] Oper.semAt_some

/-- The first k digits of an iterator. -/
def firsts (item : Nat → Int × Bool) (k : Nat) : List Int := (List.range k).map fun i => (item i).1
theorem firsts_length (item : Nat → Int × Bool) (k : Nat) : (firsts item k).length = k := by simp [firsts]
theorem firsts_succ (item : Nat → Int × Bool) (k : Nat) : firsts item (k + 1) = firsts item k ++ [(item k).1] := by simp [firsts, List.range_succ]
/-- What was left behind the last one. -/
def lastMore (item : Nat → Int × Bool) : Nat → Bool
  | 0 => false
  | k + 1 => (item k).2

theorem Kb.grown {mb : Nat} {w A B : World} {row : Option Nat} (h : Kb mb w A) (hg : A.grownBy B row) (hr : ∀ r, row = some r → w.heap.size ≤ r) : Kb mb w B :=
  ⟨hg.os.trans h.os, hg.tape.trans h.tape, hg.output.trans h.output, Nat.le_trans h.size hg.size, fun g hg2 hB => (hg.block g (Nat.lt_of_lt_of_le hg2 h.size) (fun e => by have := hr g e.symm; omega)).trans (h.block g hg2 hB)⟩
theorem Kb.setF {mb : Nat} {w A : World} (h : Kb mb w A) {B i : Nat} (hB : w.heap.size ≤ B) (v : Value) : Kb mb w (A.setCell ⟨B, i, none⟩ v) := h.trans' ((Below.refl w.heap.size A).setCell (p := ⟨B, i, none⟩) hB v) (Nat.le_refl _)

/-- What holds after k rounds. -/
structure TK (item : Nat → Int × Bool) (many mb b0 base : Nat) (w : World) (k : Nat) (V : World) : Prop where
  box : ∃ v, V.heap[b0 + 1]? = some (.cells #[v] 93 (0, 0)) ∧ V.ownsRow base 5 1 v k ((firsts item k).map (Value.int .u8))
  more : V.heap[b0 + 1 + 1]? = some (.cells #[.bool (lastMore item k)] 4 (0, 0))
  many : V.heap[b0]? = some (.cells #[.int .i64 (many : Int)] 3 (0, 0))
  kept : Kb mb w V
  size : base ≤ V.heap.size
theorem TK.own (item : Nat → Int × Bool) (many mb b0 base : Nat) (w : World) (hb : b0 + 3 ≤ base) (hw : w.heap.size ≤ base) : OwnFrom base (fun k V => TK item many mb b0 base w k V) := fun k X Y row h hg hr => by
  have hc : ∀ r, row = some r → ∃ o : Obj, X.heap[r]? = some o ∧ o.isCells = false := fun r e => (hr r e).2
  obtain ⟨v, h1, h2⟩ := h.box
  exact ⟨⟨v, heapKept h1 hg hc, own_kept h2 hg hc⟩, heapKept h.more hg hc, heapKept h.many hg hc, h.kept.grown hg (fun r e => Nat.le_trans hw (hr r e).1), Nat.le_trans h.size hg.size⟩
theorem TK.set {item : Nat → Int × Bool} {many mb b0 base : Nat} {w : World} {k : Nat} {V : World} (h : TK item many mb b0 base w k V) (hm : mb < b0) (hb : b0 + 3 ≤ base) (v : Value) : TK item many mb b0 base w k (V.setCell ⟨mb, 0, none⟩ v) := by
  obtain ⟨u, h1, h2⟩ := h.box
  exact ⟨⟨u, (Below.heap_setCell _ _ _ _ (by simp; omega)).trans h1, own_setCell_other h2 ⟨mb, 0, none⟩ v (own_neB h2 (B := mb) (by omega))⟩, (Below.heap_setCell _ _ _ _ (by simp; omega)).trans h.more, (Below.heap_setCell _ _ _ _ (by simp; omega)).trans h.many, h.kept.trans (Kb.set mb 0 V v), by simpa using h.size⟩

set_option maxRecDepth 100000 in
set_option maxHeartbeats 4000000 in
theorem taken_in (gf : Nat) (lb : Array Value) (item : Nat → Int × Bool) (many mb : Nat) (w : World) (eg : ∀ args w, (callFunc gf args).run Tryz.prog w = .ok (.enter gf args) w) (hseq : Endless Fence.wide 5 Tryz.prog gf lb item w.heap.size mb many w) (hmb : mb < w.heap.size) (hit : ∀ k, 0 ≤ (item k).1 ∧ (item k).1 < 10) (h0 : 0 < many) (hmax : many ≤ 1000) :
    CallsIn Fence.wide 6 Tryz.prog 178 #[.int .i64 (many : Int), .func (.func gf) #[] lb] w fun en w' => ∃ A c, en = .returned (.tuple #[.slice A many c, .bool (lastMore item many)]) ∧ many ≤ c ∧ c ≤ 9223372036854775807 ∧ Row .u8 w' A (firsts item many) ∧ Kb mb w w' := by
  obtain ⟨W, hW, k0, k1, k2, hbel⟩ := bx3h w #[.int .i64 (many : Int)] #[.slice none 0 0] #[.bool false] 3 93 4
  have hsz : W.heap.size = w.heap.size + 3 := by rw [← hW]; simp
  have HK0 := Lib.hid k0; have HK1 := Lib.hid k1; have HK2 := Lib.hid k2; have HBEL := Lib.hid hbel; have HSZ := Lib.hid hsz
  have HSEQ := Lib.hid hseq; have HIT := Lib.hid hit
  clear k0 k1 k2 hbel hsz hseq hit
  refine callsIn_of_wp_marks Tryz.func178 rfl trivial ?_ rfl
  simp only [Tryz.ntmps178, List.size_toArray, List.length_cons, List.length_nil, Nat.reduceAdd, Nat.reduceSub, Array.replicate_succ, Array.replicate_zero, List.push_toArray, List.append_toArray, List.nil_append, List.cons_append]
  gi_wp2_with fail
  have hz := HSZ.out
  obtain ⟨I0, hi, hz0, hz1, hz3⟩ := info_parts info_byte
  have HI := Lib.hid (And.intro hi (And.intro hz0 (And.intro hz1 hz3)))
  clear hi hz0 hz1 hz3
  refine range_endless (n := 6) (id := 0) rfl (by decide) rfl trivial eg HSEQ.out HBEL.out (by omega) (by omega) rfl
    (fun k V => k < many ∧ TK item many mb w.heap.size W.heap.size w k V) (fun k V => k = many ∧ TK item many mb w.heap.size W.heap.size w k V)
    (fun k X Y row h hg hr => ⟨h.1, TK.own item many mb w.heap.size W.heap.size w (by omega) (by omega) k X Y row h.2 hg hr⟩)
    (fun k X Y row h hg hr => ⟨h.1, TK.own item many mb w.heap.size W.heap.size w (by omega) (by omega) k X Y row h.2 hg hr⟩)
    (fun k V v h => ⟨h.1, h.2.set hmb (by omega) v⟩) (fun k V h => h.1)
    ⟨h0, ⟨_, HK1.out, World.ownsRow_nil _ _ _ _⟩, HK2.out, HK0.out, Kb.of HBEL.out, Nat.le_refl _⟩
    (fun k => { tmps := (.int .i64 (many : Int) :: .func (.func gf) #[] lb :: .pointer (some ⟨w.heap.size, 0, none⟩) :: undef :: .pointer (some ⟨w.heap.size + 1, 0, none⟩) :: .pointer (some ⟨w.heap.size + 1 + 1, 0, none⟩) :: .int .u8 (item k).1 :: .bool (item k).2 :: .func (.func gf) #[] lb :: .int .u8 (item k).1 :: .bool (item k).2 :: undef :: undef :: undef :: undef :: undef :: undef :: undef :: undef :: undef :: undef :: undef :: []).toArray, defers := [] }) ?assign ?body ?stop
  case assign =>
    intro l k V K hK
    gi_wp2
    exact hK
  case body =>
    rintro l k V ⟨hk, hT⟩
    obtain ⟨v, ha, hown⟩ := hT.box
    obtain ⟨d0, d9⟩ := HIT.out k
    obtain ⟨⟨d, mo⟩, hd⟩ : ∃ x, item k = x := ⟨_, rfl⟩
    rw [hd] at d0 d9 ⊢
    have HD := Lib.hid hd
    dsimp only at d0 d9 ⊢
    have c0 := cell_of_heap ha 0; have c1 := cell_of_heap hT.more 0; have c2 := cell_of_heap hT.many 0
    simp at c0 c1 c2
    have HOW := Lib.hid hown; have HAX := Lib.hid ha; have HT := Lib.hid hT
    have hzV := hT.size
    have HCE : Hid (∀ (j : Nat) (o : Obj), v.ownBlock = some j → (V.alloc (.cells #[.int .u8 d] 5)).heap[j]? = some o → o.isCells = true) := fun j o hj ho => by
      rcases hown.2 with ⟨rfl, _⟩ | ⟨g, cap, cur, rfl, _, hh, _⟩
      · cases hj
      · cases hj
        rw [heap_old _ hh] at ho
        cases ho; rfl
    have HN0 := Lib.hid (own_neB hown (B := w.heap.size) (by omega)); have HN1 := Lib.hid (own_neB hown (B := w.heap.size + 1) (by omega)); have HN2 := Lib.hid (own_neB hown (B := w.heap.size + 1 + 1) (by omega))
    have a01 : ∀ o, (V.alloc o).cell? ⟨w.heap.size + 1, 0, none⟩ = some v := fun o => keep_cell ((Below.refl _ _).alloc (Nat.le_refl _) o) c0
    clear hd hT ha hown
    have HZV := Lib.hid hzV
    have fin : Hid (∀ (g9 cap9 : Nat) (w1 : World), w1.ownsRow W.heap.size 5 1 (.slice (some ⟨g9, 0, none⟩) (k + 1) cap9) (k + 1) ((firsts item k).map (Value.int .u8) ++ [.int .u8 d]) → (V.alloc (.cells #[.int .u8 d] 5)).grownBy w1 v.ownBlock → KeepsOthers V ((w1.setCell ⟨w.heap.size + 1, 0, none⟩ (.slice (some ⟨g9, 0, none⟩) (k + 1) cap9)).setCell ⟨w.heap.size + 1 + 1, 0, none⟩ (.bool mo)) ∧ Below w.heap.size V ((w1.setCell ⟨w.heap.size + 1, 0, none⟩ (.slice (some ⟨g9, 0, none⟩) (k + 1) cap9)).setCell ⟨w.heap.size + 1 + 1, 0, none⟩ (.bool mo)) ∧ TK item many mb w.heap.size W.heap.size w (k + 1) ((w1.setCell ⟨w.heap.size + 1, 0, none⟩ (.slice (some ⟨g9, 0, none⟩) (k + 1) cap9)).setCell ⟨w.heap.size + 1 + 1, 0, none⟩ (.bool mo))) := by
      intro g9 cap9 w1 hown1 hg1
      have hzV := HZV.out
      have hb1 : Below w.heap.size V w1 := ((Below.refl w.heap.size V).alloc (by omega) _).grown hg1 (by simp; omega) ((own_from HOW.out).mono (by omega))
      have hxa := grownB hg1 (heap_old _ HAX.out) HN1.out
      have hxm := grownB hg1 (heap_old _ HT.out.more) HN2.out
      have hx0 := grownB hg1 (heap_old _ HT.out.many) HN0.out
      have hbb := (hb1.setCell (p := ⟨w.heap.size + 1, 0, none⟩) (by simp) (.slice (some ⟨g9, 0, none⟩) (k + 1) cap9)).setCell (p := ⟨w.heap.size + 1 + 1, 0, none⟩) (by simp; omega) (.bool mo)
      refine ⟨(KeepsOthers.alloc V _).trans ((KeepsOthers.of_grownBy hg1 HCE.out).trans ((KeepsOthers.setCell _ _ _).trans (KeepsOthers.setCell _ _ _))), hbb, ⟨⟨.slice (some ⟨g9, 0, none⟩) (k + 1) cap9, ?_, ?_⟩, ?_, ?_, HT.out.kept.trans' hbb (Nat.le_refl _), Nat.le_trans hzV hbb.size⟩⟩
      · have := putB hxa 0 (.slice (some ⟨g9, 0, none⟩) (k + 1) cap9)
        exact (Below.heap_setCell _ _ _ _ (by simp)).trans (by simpa using this)
      · rw [firsts_succ, HD.out, List.map_append]
        have ho1 := own_setCell_other hown1 ⟨w.heap.size + 1, 0, none⟩ (.slice (some ⟨g9, 0, none⟩) (k + 1) cap9) (own_neB hown1 (B := w.heap.size + 1) (by omega))
        exact own_setCell_other ho1 ⟨w.heap.size + 1 + 1, 0, none⟩ (.bool mo) (own_neB ho1 (B := w.heap.size + 1 + 1) (by omega))
      · have := putB ((Below.heap_setCell w1 ⟨w.heap.size + 1, 0, none⟩ (.slice (some ⟨g9, 0, none⟩) (k + 1) cap9) (w.heap.size + 1 + 1) (by simp)).trans hxm) 0 (.bool mo)
        rw [lastMore, HD.out]
        simpa using this
      · exact (Below.heap_setCell _ _ _ _ (by simp; omega)).trans ((Below.heap_setCell _ _ _ _ (by simp)).trans hx0)
    have hk1 : k + 1 ≤ 1000 := by omega
    by_cases hkm : k + 1 = many
    · have hkm1 : (k : Int) + 1 = (many : Int) := by omega
      gi_wp2_with (gi_at_builtin; refine wpListIn_append_own _ rfl _ _ 93 rfl W.heap.size 5 I0 (.int .u8 0) 1 1 Tryz.underlying93 HI.out.1 HI.out.2.1 HI.out.2.2.1 HI.out.2.2.2 rfl (by decide) _ _ _ rfl (HOW.out.alloc _) ⟨V.heap.size, 0, none⟩ 1 1 [.int .u8 d] rfl rfl (cell_one_new _ _ _) (by simp [Value.oneCell']) (by unfold maxLen; omega) (by omega) (by simp; omega) ?_; intro v' w1 hown1 hgrow1 _; obtain ⟨g9, cap9, rfl⟩ := own_some' hown1 (by omega); have x1 := grownB hgrow1 (heap_old _ HAX.out) HN1.out; have x2 := grownB hgrow1 (heap_old _ HT.out.more) HN2.out; have x0 := grownB hgrow1 (heap_old _ HT.out.many) HN0.out; have y1 := cell_of_heap x1 0; have z1 := free_of_heap x1 0; have y2 := cell_of_heap x2 0; have z2 := free_of_heap x2 0; have y0 := cell_of_heap x0 0; have HF := Lib.hid (fin.out _ _ _ hown1 hgrow1); simp at y0 y1 y2; clear hown1 hgrow1 x0 x1 x2)
      have h9 := HF.out
      rw [hkm] at h9
      exact .inr ⟨rfl, h9.1, hkm, by rw [hkm]; exact h9.2.2⟩
    · have hkm1 : ¬ (k : Int) + 1 = (many : Int) := by omega
      have hkl : k + 1 < many := by omega
      gi_wp2_with (gi_at_builtin; refine wpListIn_append_own _ rfl _ _ 93 rfl W.heap.size 5 I0 (.int .u8 0) 1 1 Tryz.underlying93 HI.out.1 HI.out.2.1 HI.out.2.2.1 HI.out.2.2.2 rfl (by decide) _ _ _ rfl (HOW.out.alloc _) ⟨V.heap.size, 0, none⟩ 1 1 [.int .u8 d] rfl rfl (cell_one_new _ _ _) (by simp [Value.oneCell']) (by unfold maxLen; omega) (by omega) (by simp; omega) ?_; intro v' w1 hown1 hgrow1 _; obtain ⟨g9, cap9, rfl⟩ := own_some' hown1 (by omega); have x1 := grownB hgrow1 (heap_old _ HAX.out) HN1.out; have x2 := grownB hgrow1 (heap_old _ HT.out.more) HN2.out; have x0 := grownB hgrow1 (heap_old _ HT.out.many) HN0.out; have y1 := cell_of_heap x1 0; have z1 := free_of_heap x1 0; have y2 := cell_of_heap x2 0; have z2 := free_of_heap x2 0; have y0 := cell_of_heap x0 0; have HF := Lib.hid (fin.out _ _ _ hown1 hgrow1); simp at y0 y1 y2; clear hown1 hgrow1 x0 x1 x2)
      exact .inl ⟨rfl, HF.out.1, HF.out.2.1, hkl, HF.out.2.2⟩
  case stop =>
    rintro D k V hD ⟨hk, hT⟩ hK
    obtain ⟨v, ha, hown⟩ := hT.box
    rw [hk] at hown
    obtain ⟨A, c, rfl, hc1, hc2, hr, hrl⟩ := own_row hown
    have hcm : c ≤ 9223372036854775807 := by unfold maxLen at hc2; omega
    rw [firsts_length] at ha hown hc1
    have hmo := hT.more
    rw [hk] at hmo
    obtain ⟨mo, hmo2⟩ : ∃ mo, lastMore item many = mo := ⟨_, rfl⟩
    rw [hmo2] at hmo
    have HMO := Lib.hid hmo2
    have a1 := cell_of_heap ha 0; have a2 := cell_of_heap hmo 0; have z1 := free_of_heap ha 0; have z2 := free_of_heap hmo 0
    simp at a1 a2
    have HA := Lib.hid ha; have HM := Lib.hid hmo; have HR := Lib.hid hr; have HK := Lib.hid hK; have HC := Lib.hid (And.intro hc1 hcm); have HKB := Lib.hid hT.kept; have HFR := Lib.hid (own_from hown)
    have hzV := hT.size
    clear hk hT ha hown hc1 hc2 hr hrl hcm hmo hmo2 hK
    gi_wp2_with fail
    gi_region
    all_goals gi_wp2_with fail
    have hb1 := putB HA.out 0 (.slice A many c)
    have hb2 := putB ((Below.heap_setCell V ⟨w.heap.size + 1, 0, none⟩ (.slice A many c) (w.heap.size + 1 + 1) (by simp)).trans HM.out) 0 (.bool mo)
    obtain ⟨F, hF⟩ : ∃ F, ((V.setCell ⟨w.heap.size + 1, 0, none⟩ (.slice A many c)).setCell ⟨w.heap.size + 1 + 1, 0, none⟩ (.bool mo)).drew = F := ⟨_, rfl⟩
    have ho : ∀ g, g ≠ w.heap.size + 1 → g ≠ w.heap.size + 1 + 1 → F.heap[g]? = V.heap[g]? := fun g h1 h2 => by
      rw [← hF]; exact (Below.heap_setCell _ _ _ _ h2).trans (Below.heap_setCell _ _ _ _ h1)
    have hf1 : F.heap[w.heap.size + 1]? = some (.cells #[.slice A many c] 93 (0, 0)) := by
      rw [← hF]; exact (Below.heap_setCell _ _ _ _ (by simp)).trans (by simpa using hb1)
    have hf2 : F.heap[w.heap.size + 1 + 1]? = some (.cells #[.bool mo] 4 (0, 0)) := by
      rw [← hF]; exact (by simpa using hb2 : _)
    have hkb : Kb mb w F := by rw [← hF]; exact ((HKB.out.setF (by omega) _).setF (by omega) _).trans (Kb.drew _ _)
    rw [hF]
    have hK' : F.heap[D]? = some (.deferred (some [])) := (ho D (by omega) (by omega)).trans HK.out
    have hkr : ∀ r, some D = some r → ∃ o : Obj, F.heap[r]? = some o ∧ o.isCells = false := fun r e => by cases e; exact ⟨_, hK', rfl⟩
    have hg := grownBy_putObj' F D (.deferred none)
    have r1 := cell_of_heap (heapKept hf1 hg hkr) 0; have r2 := cell_of_heap (heapKept hf2 hg hkr) 0
    simp at r1 r2
    have hrow : Row .u8 F A (firsts item many) := HR.out.same fun a ha => ho _ (by have := HFR.out a.block (by rw [ha]; rfl); omega) (by have := HFR.out a.block (by rw [ha]; rfl); omega)
    refine ⟨by simp, .inl ⟨_, _, rfl, run_takeDeferred hK', ?_⟩⟩
    refine ⟨.tuple #[.slice A many c, .bool mo], ?_, A, c, by rw [HMO.out], HC.out.1, HC.out.2, row_kept hrow hg hkr, hkb.grown hg (fun r e => by cases e; omega)⟩
    simp [results, Tryz.results178, go_sem, r1, r2]
end Go.Proofs.YtekbfommnmikbaaGreatDoor
/- Package real: the digits of a quotient. -/
namespace Go.Proofs.YtekbfommnmikbaaGreatDoor
set_option linter.unusedVariables false
set_option linter.unusedSimpArgs false
open Go.RowKit Go.Shelf
attribute [local go_sem] Oper.semAt_some

/-- What is left of m behind k digits, times 10. -/
def qm (m n : Nat) : Nat → Nat
  | 0 => m
  | k + 1 => qm m n k % n * 10
def qitem (m n k : Nat) : Int × Bool := (((qm m n k / n : Nat) : Int), ((qm m n k % n : Nat) : Int) != 0)
theorem qm_lt {m n : Nat} (hn : 0 < n) (hm : m < 10 * n) : ∀ k, qm m n k < 10 * n
  | 0 => hm
  | k + 1 => by show qm m n k % n * 10 < 10 * n; have := Nat.mod_lt (qm m n k) hn; omega
theorem qitem_dig {m n : Nat} (hn : 0 < n) (hm : m < 10 * n) (k : Nat) : 0 ≤ (qitem m n k).1 ∧ (qitem m n k).1 < 10 := by
  have h : qm m n k / n < 10 := by rw [Nat.div_lt_iff_lt_mul hn]; exact qm_lt hn hm k
  obtain ⟨c, hc⟩ : ∃ c, qm m n k / n = c := ⟨_, rfl⟩
  rw [hc] at h
  unfold qitem
  rw [hc]
  exact ⟨Int.natCast_nonneg c, by show (c : Int) < 10; omega⟩
theorem grown_drewA (w : World) (row : Option Nat) : w.grownBy w.drew row := ⟨rfl, rfl, rfl, Nat.le_refl _, fun _ _ _ => rfl⟩

set_option maxRecDepth 100000 in
set_option maxHeartbeats 4000000 in
theorem quo1_endless (m n mb nb n₀ N : Nat) (w : World) (hn : 0 < n) (hm : m < 10 * n) (hn2 : n < 1000000000000) (hmb : mb < n₀) (hnb : nb < n₀) (hne : mb ≠ nb) (hsz : n₀ ≤ w.heap.size) (hc0 : w.heap[mb]? = some (.cells #[.int .i64 (m : Int)] 3 (0, 0))) (hc1 : w.heap[nb]? = some (.cells #[.int .i64 (n : Int)] 3 (0, 0))) :
    Endless Fence.wide 5 Tryz.prog 218 #[.pointer (some ⟨mb, 0, none⟩), .pointer (some ⟨nb, 0, none⟩)] (qitem m n) n₀ mb N w := by
  intro l J Jx W hWb hJN hJs hJg hJy hJ0
  have HQL := Lib.hid (qm_lt hn hm)
  have HY := Lib.hid hJy; have HJN := Lib.hid hJN; have HJS := Lib.hid hJs; have HJG := Lib.hid hJg
  have HW0 := Lib.hid ((hWb.block mb (by omega)).trans hc0); have HW1 := Lib.hid ((hWb.block nb (by omega)).trans hc1)
  clear hJy hJN hJs hJg hWb hc0 hc1
  refine callsIn_of_wp Tryz.func218 rfl trivial ?_ rfl
  simp only [Tryz.ntmps218, List.size_toArray, List.length_cons, List.length_nil, Nat.reduceAdd, Nat.reduceSub, Array.replicate_succ, Array.replicate_zero, List.push_toArray, List.append_toArray, List.nil_append, List.cons_append]
  gi_wp2_with fail
  gi_loopg [] N (fun g wr => ∃ k : Nat, k + g = N ∧ Hid (J k wr) ∧ Hid (wr.heap[mb]? = some (.cells #[.int .i64 (qm m n k : Int)] 3 (0, 0))) ∧ Hid (wr.heap[nb]? = some (.cells #[.int .i64 (n : Int)] 3 (0, 0))))
  case atStart => exact ⟨0, by omega, hJ0, HW0.out, HW1.out⟩
  case round =>
    obtain ⟨k, hk, HJ, HM, HN⟩ := hrel
    have HK := Lib.hid hk
    have hkN := HJN.out k wr HJ.out
    have c0 := cell_of_heap HM.out 0; have c1 := cell_of_heap HN.out 0
    simp at c0 c1
    obtain ⟨q, hq⟩ : ∃ q, qm m n k = q := ⟨_, rfl⟩
    rw [hq] at c0
    have HQ := Lib.hid hq
    have hq10 : q < 10 * n := by rw [← hq]; exact HQL.out k
    have hqd : (q : Int).tdiv (n : Int) = ((q / n : Nat) : Int) := rfl
    have hqm : (q : Int).tmod (n : Int) = ((q % n : Nat) : Int) := rfl
    have hnn : ¬ n = 0 := by omega
    obtain ⟨fn, tmps, assign, body, hy, hR⟩ := HY.out k wr.drew (HJG.out k wr wr.drew HJ.out (grown_drewA _ _))
    clear hk hq
    have hit : qitem m n k = (((q / n : Nat) : Int), ((q % n : Nat) : Int) != 0) := by unfold qitem; rw [HQ.out]
    rw [hit] at hy
    dsimp only at hy
    have hd9 : q / n < 10 := by rw [Nat.div_lt_iff_lt_mul hn]; exact hq10
    obtain ⟨c, hc⟩ : ∃ c, q / n = c := ⟨_, rfl⟩
    rw [hc] at hy hqd hd9
    obtain ⟨r, hr⟩ : ∃ r, q % n = r := ⟨_, rfl⟩
    have hrn : r < n := by rw [← hr]; exact Nat.mod_lt q hn
    rw [hr] at hy hqm
    have HR := Lib.hid hr
    have hwc : IntKind.u8.wrap (c : Int) = (c : Int) := by rw [show IntKind.u8.wrap (c : Int) = (c : Int) % 256 from rfl]; omega
    have hwi : IntKind.i64.wrap (c : Int) = (c : Int) := IntWalk.i64_in _ (by omega)
    have HRR := Lib.hid hR
    clear hr hc hit hR
    gi_wp2_with fail
    gi_cut [13] from 4 (fun v wx => ∃ b, v = .bool b ∧ Hid (b = true → J (k + 1) wx ∧ Below n₀ wr.drew wx) ∧ Hid (b = false → Jx (k + 1) wx))
    case first =>
      gi_region_with (refine HRR.out.mono ?_; rintro e W3 he; obtain ⟨b, rfl, hbt, hbf⟩ : ∃ b, e = .returned (.bool b) ∧ (b = true → J (k + 1) W3 ∧ Below n₀ wr.drew W3) ∧ (b = false → Jx (k + 1) W3) := (by rcases he with ⟨rfl, h⟩ | ⟨rfl, h⟩; exact ⟨true, rfl, fun _ => h, fun h => (by cases h)⟩; exact ⟨false, rfl, fun h => (by cases h), fun _ => h⟩); have HBT := Lib.hid hbt; have HBF := Lib.hid hbf; clear he hbt hbf)
      all_goals
        gi_wp2_with fail
        gi_meet
        case rel => exact ⟨b, rfl, HBT.out, HBF.out⟩
    case rest =>
      obtain ⟨b, rfl, HBT, HBF⟩ := hcut
      cases b
      · have h9 := HBF.out rfl
        clear HBT HBF
        gi_wp2_with fail
        go_end0
        exact ⟨⟨_, rfl⟩, k, h9⟩
      obtain ⟨HJ1', HB1'⟩ := HBT.out rfl
      have HJ1 := Lib.hid HJ1'; have HB1 := Lib.hid HB1'
      clear HBT HBF HJ1' HB1'
      have hm1 := (HB1.out.block mb hmb).trans HM.out
      have hn1 := (HB1.out.block nb hnb).trans HN.out
      rw [HQ.out] at hm1
      have d0 := cell_of_heap hm1 0; have d1 := cell_of_heap hn1 0; have f0 := free_of_heap hm1 0
      have hrw : IntKind.i64.wrap ((r : Int) * 10) = (r : Int) * 10 := IntWalk.i64_in _ (by omega)
      simp at d0 d1
      have HM1 := Lib.hid hm1; have HN1 := Lib.hid hn1
      clear hm1 hn1
      gi_wp2_with fail
      go_roundg (gk - 1)
      case measure => have := HK.out; omega
      case rel =>
        refine ⟨k + 1, by have := HK.out; omega, HJS.out _ _ _ HJ1.out, ?_, (Below.heap_setCell _ _ _ _ (by simp; omega)).trans HN1.out⟩
        have := putB HM1.out 0 (.int .i64 ((r : Int) * 10))
        show _ = _
        rw [qm, HQ.out, HR.out]
        rw [show ((r * 10 : Nat) : Int) = (r : Int) * 10 by omega]
        simpa using this
end Go.Proofs.YtekbfommnmikbaaGreatDoor
/- Package real: the quotient. -/
namespace Go.Proofs.YtekbfommnmikbaaGreatDoor
set_option linter.unusedVariables false
set_option linter.unusedSimpArgs false
open Go.RowKit Go.Shelf Go.Proofs
attribute [local go_sem ↓] Go.wp_at_zero Go.wp_at_succ

set_option maxHeartbeats 1000000 in
theorem quotients_c (m n : Int) (w : World) : Calls Tryz.prog 179 #[.int .i64 m, .int .i64 n] w fun en w' => en = .returned (.func (.func 218) #[] #[.pointer (some ⟨w.heap.size, 0, none⟩), .pointer (some ⟨w.heap.size + 1, 0, none⟩)]) ∧ w' = (w.alloc (.cells #[.int .i64 m] 3)).alloc (.cells #[.int .i64 n] 3) := by
  go_enter Tryz.func179, Tryz.ntmps179
  go_wp2_with fail
  go_ret
  exact ⟨rfl, rfl⟩

theorem taken_c (gf : Nat) (lb : Array Value) (item : Nat → Int × Bool) (many mb : Nat) (w : World) (eg : ∀ args w, (callFunc gf args).run Tryz.prog w = .ok (.enter gf args) w) (hseq : Endless Fence.wide 5 Tryz.prog gf lb item w.heap.size mb many w) (hmb : mb < w.heap.size) (hit : ∀ k, 0 ≤ (item k).1 ∧ (item k).1 < 10) (h0 : 0 < many) (hmax : many ≤ 1000) :
    Calls Tryz.prog 178 #[.int .i64 (many : Int), .func (.func gf) #[] lb] w fun en w' => ∃ A c, en = .returned (.tuple #[.slice A many c, .bool (lastMore item many)]) ∧ many ≤ c ∧ c ≤ 9223372036854775807 ∧ Row .u8 w' A (firsts item many) ∧ Kb mb w w' := callsIn_wide.1 (taken_in gf lb item many mb w eg hseq hmb hit h0 hmax)

set_option maxRecDepth 100000 in
set_option maxHeartbeats 4000000 in
theorem quotient_c (xm xe ym ye : Int) (w : World) (hx : RV xm.natAbs xe) (hy : RV ym.natAbs ye) (hy0 : ym ≠ 0) :
    Calls Tryz.prog 121 #[.agg #[.int .i64 xm, .int .i64 xe], .agg #[.int .i64 ym, .int .i64 ye]] w fun en w' => ∃ v, en = .returned v ∧ Amt w' v (decide (xm < 0) != decide (ym < 0)) (firsts (qitem xm.natAbs ym.natAbs) 14) (xe - ye - 13) (lastMore (qitem xm.natAbs ym.natAbs) 14) ∧ Below w.heap.size w w' := by
  obtain ⟨W, hW, k0, k1, k2, hbel⟩ := bx3h w #[.int .i64 xm, .int .i64 xe] #[.int .i64 ym, .int .i64 ye] #[.bool false, .slice none 0 0, .int .i64 0, .bool false] 23 23 95
  have hsz : W.heap.size = w.heap.size + 3 := by rw [← hW]; simp
  obtain ⟨x0, x1, x2⟩ := RV_abs hx
  obtain ⟨y0, y1, y2⟩ := RV_abs hy
  have hxl : -9223372036854775807 ≤ xm := by omega
  have hxu : xm ≤ 9223372036854775807 := by omega
  have hyl : -9223372036854775807 ≤ ym := by omega
  have hyu : ym ≤ 9223372036854775807 := by omega
  have hM : xm.natAbs < 10 * ym.natAbs := by
    unfold RV at hx hy; omega
  have hN0 : 0 < ym.natAbs := by omega
  obtain ⟨M, hMe⟩ : ∃ M, xm.natAbs = M := ⟨_, rfl⟩
  obtain ⟨N, hNe⟩ : ∃ N, ym.natAbs = N := ⟨_, rfl⟩
  rw [hMe] at hM x0; rw [hNe] at hM hN0 y0
  rw [hMe, hNe]
  have HM := Lib.hid hMe; have HN := Lib.hid hNe
  obtain ⟨more, hmore⟩ : ∃ more, lastMore (qitem M N) 14 = more := ⟨_, rfl⟩
  obtain ⟨ds, hds⟩ : ∃ ds, firsts (qitem M N) 14 = ds := ⟨_, rfl⟩
  have HIT := Lib.hid (qitem_dig hN0 hM)
  rw [hmore, hds]
  have HMO := Lib.hid hmore; have HDS := Lib.hid hds
  have c00 := cell_of_heap k0 0; have c01 := cell_of_heap k0 1; have c10 := cell_of_heap k1 0; have c11 := cell_of_heap k1 1
  simp at c00 c01 c10 c11
  have HK2 := Lib.hid k2; have HBEL := Lib.hid hbel; have HSZ := Lib.hid hsz
  have HSS : Hid (∀ w', Bel (w.heap.size + 3) W w' → w'.cell? ⟨w.heap.size, 0, none⟩ = some (.int .i64 xm) ∧ w'.cell? ⟨w.heap.size, 1, none⟩ = some (.int .i64 xe) ∧ w'.cell? ⟨w.heap.size + 1, 0, none⟩ = some (.int .i64 ym) ∧ w'.cell? ⟨w.heap.size + 1, 1, none⟩ = some (.int .i64 ye) ∧ Bel (w.heap.size + 3) W w') := fun w' h => ⟨(h.to_.cell (p := ⟨w.heap.size, 0, none⟩) (by simp)).trans c00, (h.to_.cell (p := ⟨w.heap.size, 1, none⟩) (by simp)).trans c01, (h.to_.cell (p := ⟨w.heap.size + 1, 0, none⟩) (by simp)).trans c10, (h.to_.cell (p := ⟨w.heap.size + 1, 1, none⟩) (by simp)).trans c11, h⟩
  have HTK : Hid (∀ Wq : World, Wq.heap[W.heap.size]? = some (.cells #[.int .i64 (M : Int)] 3 (0, 0)) → Wq.heap[W.heap.size + 1]? = some (.cells #[.int .i64 (N : Int)] 3 (0, 0)) → Wq.heap.size = W.heap.size + 2 → Below W.heap.size W Wq →
      Calls Tryz.prog 178 #[.int .i64 14, .func (.func 218) #[] #[.pointer (some ⟨W.heap.size, 0, none⟩), .pointer (some ⟨W.heap.size + 1, 0, none⟩)]] Wq fun en W9 => ∃ A c, en = .returned (.tuple #[.slice A 14 c, .bool more]) ∧ (14 ≤ c ∧ c ≤ 9223372036854775807 ∧ Row .u8 W9 A ds) ∧ Bel (w.heap.size + 3) W W9 ∧ W9.heap[w.heap.size + 1 + 1]? = some (.cells #[.bool false, .slice none 0 0, .int .i64 0, .bool false] 95 (0, 0)) ∧ Below W.heap.size W W9) := by
    intro Wq h0 h1 hz hb
    have hsz := HSZ.out
    refine (taken_c 218 _ (qitem M N) 14 W.heap.size Wq (enters_of Tryz.func218 (by kernel_rfl) rfl) (quo1_endless M N W.heap.size (W.heap.size + 1) Wq.heap.size 14 Wq hN0 hM y0 (by omega) (by omega) (by omega) (Nat.le_refl _) h0 h1) (by omega) HIT.out (by decide) (by decide)).mono ?_
    rintro en W9 ⟨A9, c9, rfl, hc9, hm9, hr9, hk9⟩
    rw [HDS.out] at hr9
    rw [HMO.out]
    have hb9 : Below W.heap.size W W9 := hb.trans (hk9.below (by omega))
    exact ⟨A9, c9, rfl, ⟨hc9, hm9, hr9⟩, ⟨hb9.mono (by omega), by omega⟩, heapB hb9 HK2.out, hb9⟩
  have hbl := Bel.refl (w.heap.size + 3) W (by omega)
  clear k0 k1 k2 hbel hx hy hMe hNe hmore hds hsz
  rw [show xe - ye - 13 = xe - ye - 12 - 1 by omega]
  go_enter Tryz.func121, Tryz.ntmps121
  go_upto_region 1 with fail
  go_region_held3 (fun w' => w'.cell? ⟨w.heap.size, 0, none⟩ = some (.int .i64 xm) ∧ w'.cell? ⟨w.heap.size, 1, none⟩ = some (.int .i64 xe) ∧ w'.cell? ⟨w.heap.size + 1, 0, none⟩ = some (.int .i64 ym) ∧ w'.cell? ⟨w.heap.size + 1, 1, none⟩ = some (.int .i64 ye) ∧ Bel (w.heap.size + 3) W w')
    ((go_split_ands; (with_reducible refine HSS.out _ ?_); (repeat (first | (with_reducible assumption) | (with_reducible refine Bel.call ?_ hbz) | (with_reducible refine Bel.alloc ?_ _) | (with_reducible refine Bel.drew ?_) | (with_reducible refine Bel.set ?_ _ (by first | exact Nat.le_refl _ | (simp; done) | (simp; omega)))))))
    (first
      | (go_at_call 100; (with_reducible refine (size_c xm _ hxl hxu).mono ?_); rintro en w' ⟨rfl, rfl⟩; rw [HM.out])
      | (go_at_call 100; (with_reducible refine (size_c ym _ hyl hyu).mono ?_); rintro en w' ⟨rfl, rfl⟩; rw [HN.out])
      | (go_at_call 179; (with_reducible refine (quotients_c _ _ _).mono ?_); rintro en Wq ⟨rfl, hwq⟩; have hq0 : Wq.heap[W.heap.size]? = some (.cells #[.int .i64 (M : Int)] 3 (0, 0)) := (by rw [hwq]; exact heap_old _ (heap_alloc_new W.drew _)); have hq1 : Wq.heap[W.heap.size + 1]? = some (.cells #[.int .i64 (N : Int)] 3 (0, 0)) := (by rw [hwq]; exact heap_new' (W.drew.alloc (.cells #[.int .i64 (M : Int)] 3)) _ _ (by simp)); have hzq : Wq.heap.size = W.heap.size + 2 := (by rw [hwq]; simp); have hbz : Below W.drew.heap.size W.drew Wq := (by rw [hwq]; exact ((Below.refl _ _).alloc (Nat.le_refl _) _).alloc (by simp) _); have HQ0 := Lib.hid hq0; have HQ1 := Lib.hid hq1; have HBQ := Lib.hid (show Below W.heap.size W Wq from (Below.refl W.heap.size W).drew.trans hbz); clear hwq hq0 hq1)
      | (go_at_call 178; refine (HTK.out _ HQ0.out HQ1.out hzq HBQ.out).mono ?_; rintro en W9 ⟨A9, c9, rfl, hc9, hb9, hq9, hbw⟩; have HC9 := Lib.hid hc9; have HQ9 := Lib.hid hq9; have HB9 := Lib.hid hbw; clear hc9 hq9 hbw))
  all_goals
    go_split_ands
    have q0 := cell_of_heap HQ9.out 0; have q1 := cell_of_heap HQ9.out 1; have q2 := cell_of_heap HQ9.out 2; have q3 := cell_of_heap HQ9.out 3
    have z0 := free_of_heap HQ9.out 0; have z1 := free_of_heap HQ9.out 1; have z2 := free_of_heap HQ9.out 2; have z3 := free_of_heap HQ9.out 3
    simp at q0 q1 q2 q3
    go_wp2_with fail
    obtain ⟨sg, hsg⟩ : ∃ sg, (!decide (xm < 0) == decide (ym < 0)) = sg := ⟨_, rfl⟩
    have HSG : Hid ((decide (xm < 0) != decide (ym < 0)) = sg) := hsg
    rw [hsg]
    clear hsg
    obtain ⟨F, hF, hb, hk, ho⟩ := amt_put (s := sg) (n := 14) (c := c9) (A := A9) (e := xe - ye - 12 - 1) (more := more) HQ9.out
    rw [hF]
    have r0 := cell_of_heap hb 0; have r1 := cell_of_heap hb 1; have r2 := cell_of_heap hb 2; have r3 := cell_of_heap hb 3
    simp at r0 r1 r2 r3
    refine bodyPost_ret (v := .agg #[.bool sg, .slice A9 14 c9, .int .i64 (xe - ye - 12 - 1), .bool more]) (by simp [results, Tryz.results121, go_sem, r0, r1, r2, r3]) rfl ?_
    rw [HSG.out]
    have hl : ds.length = 14 := by rw [← HDS.out]; exact firsts_length _ _
    exact ⟨_, rfl, ⟨A9, c9, by rw [hl], by rw [hl]; exact HC9.out.1, HC9.out.2.1, row_off HC9.out.2.2 HQ9.out amt_cells ho⟩, hk _ _ (by omega) (HBEL.out.trans (HB9.out.mono (by have := HSZ.out; omega)))⟩
theorem firsts_inR {item : Nat → Int × Bool} (h : ∀ k, 0 ≤ (item k).1 ∧ (item k).1 < 10) (k : Nat) : InR 10 (firsts item k) := fun x hx => by
  obtain ⟨i, -, rfl⟩ := List.mem_map.1 hx
  exact h i
end Go.Proofs.YtekbfommnmikbaaGreatDoor
/- Plain mathematics of the digits of a root. No program in sight. -/
namespace Go.Proofs.YtekbfommnmikbaaGreatDoor
set_option linter.unusedVariables false
set_option linter.unusedSimpArgs false

/-- The greatest digit, at most d, that fits. -/
def down (R S : Nat) : Nat → Nat
  | 0 => 0
  | d + 1 => if (20 * R + (d + 1)) * (d + 1) ≤ S then d + 1 else down R S d
theorem down_le (R S : Nat) : ∀ d, down R S d ≤ d
  | 0 => Nat.le_refl _
  | d + 1 => by unfold down; split; exact Nat.le_refl _; exact Nat.le_succ_of_le (down_le R S d)
theorem down_fits (R S : Nat) : ∀ d, (20 * R + down R S d) * down R S d ≤ S
  | 0 => by simp [down]
  | d + 1 => by unfold down; split; assumption; exact down_fits R S d
theorem down_top (R S : Nat) : ∀ d, down R S d = d ∨ S < (20 * R + (down R S d + 1)) * (down R S d + 1)
  | 0 => .inl rfl
  | d + 1 => by
    unfold down
    split
    · exact .inl rfl
    · rename_i h
      rcases down_top R S d with h1 | h1
      · rw [h1]; exact .inr (by omega)
      · exact .inr h1
theorem down_step {R S d : Nat} (h : ¬ (20 * R + (d + 1)) * (d + 1) ≤ S) : down R S (d + 1) = down R S d := by rw [down, if_neg h]
theorem down_stop {R S d : Nat} (h : (20 * R + d) * d ≤ S) : down R S d = d := by
  cases d with
  | zero => rfl
  | succ d => rw [down, if_pos h]

/-- The k-th pair of digits; zeros behind the last one. -/
def pairAt (ds : List Int) (k : Nat) : Nat := if 2 * k < ds.length then (10 * ds[2 * k]?.getD 0 + ds[2 * k + 1]?.getD 0).toNat else 0
/-- The root of the first k pairs, and what is left. -/
def rs (ds : List Int) : Nat → Nat × Nat
  | 0 => (0, 0)
  | k + 1 => (10 * (rs ds k).1 + down (rs ds k).1 ((rs ds k).2 * 100 + pairAt ds k) 9, (rs ds k).2 * 100 + pairAt ds k - (20 * (rs ds k).1 + down (rs ds k).1 ((rs ds k).2 * 100 + pairAt ds k) 9) * down (rs ds k).1 ((rs ds k).2 * 100 + pairAt ds k) 9)
/-- The number of the first k pairs. -/
def pairs (ds : List Int) : Nat → Nat
  | 0 => 0
  | k + 1 => pairs ds k * 100 + pairAt ds k
theorem pairAt_int {ds : List Int} (hi : InR 10 ds) {k : Nat} (h : 2 * k < ds.length) : ((pairAt ds k : Nat) : Int) = 10 * ds[2 * k]?.getD 0 + ds[2 * k + 1]?.getD 0 := by
  have a := hi.at_ (by decide) (2 * k); have b := hi.at_ (by decide) (2 * k + 1)
  rw [List.getD_eq_getElem?_getD] at a b
  have a0 := a.1; have b0 := b.1
  rw [pairAt, if_pos h]
  exact Int.toNat_of_nonneg (by omega)
theorem pairAt_lt {ds : List Int} (hi : InR 10 ds) (k : Nat) : pairAt ds k < 100 := by
  by_cases h : 2 * k < ds.length
  · have e := pairAt_int hi h
    have a := hi.at_ (by decide) (2 * k); have b := hi.at_ (by decide) (2 * k + 1)
    rw [List.getD_eq_getElem?_getD] at a b
    have a1 : ds[2 * k]?.getD 0 < 10 := a.2
    have b1 : ds[2 * k + 1]?.getD 0 < 10 := b.2
    omega
  · rw [pairAt, if_neg h]; omega
theorem rs_root {ds : List Int} (hi : InR 10 ds) : ∀ k, RootAt (pairs ds k) (rs ds k).1 (rs ds k).2
  | 0 => rootAt_zero
  | k + 1 => by
    have h := rs_root hi k
    exact rootAt_step h (pairAt_lt hi k) (down_le _ _ _) (down_fits _ _ _) (down_top _ _ _)
theorem pairs_lt {ds : List Int} (hi : InR 10 ds) : ∀ k, pairs ds k < 100 ^ k
  | 0 => by simp [pairs]
  | k + 1 => by
    have h := pairs_lt hi k
    have h2 := pairAt_lt hi k
    rw [pairs, Nat.pow_succ]
    omega
theorem rs_lt {ds : List Int} (hi : InR 10 ds) (k : Nat) : (rs ds k).1 < 10 ^ k := by
  have h := (rootAt_le (rs_root hi k)).1
  have h2 := pairs_lt hi k
  have e : (100 : Nat) ^ k = 10 ^ k * 10 ^ k := by rw [← Nat.mul_pow]
  rw [e] at h2
  rcases Nat.lt_or_ge (rs ds k).1 (10 ^ k) with h3 | h3
  · exact h3
  · have := Nat.mul_le_mul h3 h3
    omega
/-- The k-th digit of the root, and whether something is left behind it. -/
def ritem (ds : List Int) (k : Nat) : Int × Bool := ((down (rs ds k).1 ((rs ds k).2 * 100 + pairAt ds k) 9 : Nat), decide ((((rs ds (k + 1)).2 : Nat) : Int) > 0) || decide ((2 * k + 2 : Int) < (ds.length : Int)))
theorem ritem_dig (ds : List Int) (k : Nat) : 0 ≤ (ritem ds k).1 ∧ (ritem ds k).1 < 10 := by
  have := down_le (rs ds k).1 ((rs ds k).2 * 100 + pairAt ds k) 9
  unfold ritem
  simp only []
  omega
end Go.Proofs.YtekbfommnmikbaaGreatDoor
/- Package real: the digits of a root. -/
namespace Go.Proofs.YtekbfommnmikbaaGreatDoor
set_option linter.unusedVariables false
set_option linter.unusedSimpArgs false
open Go.RowKit Go.Shelf
attribute [local go_sem] Oper.semAt_some

theorem rs_next {ds : List Int} {k R S T D : Nat} (hR : (rs ds k).1 = R) (hS : (rs ds k).2 = S) (hT : S * 100 + pairAt ds k = T) (hD : down R T 9 = D) : (rs ds (k + 1)).1 = 10 * R + D ∧ (rs ds (k + 1)).2 = T - (20 * R + D) * D ∧ ritem ds k = ((D : Int), decide (((T - (20 * R + D) * D : Nat) : Int) > 0) || decide ((2 * k + 2 : Int) < (ds.length : Int))) := by
  subst hR hS hT hD
  exact ⟨rfl, rfl, rfl⟩

set_option maxRecDepth 100000 in
set_option maxHeartbeats 4000000 in
theorem rt1_endless (A : Option Addr) (c : Nat) (ds : List Int) (lb L N : Nat) (w : World) (hi : InR 10 ds) (hL : ds.length = L) (hev : L % 2 = 0) (hLc : L ≤ 1000) (hN : N ≤ 14) (hlb : lb < w.heap.size) (hc : w.heap[lb]? = some (.cells #[.slice A L c] 93 (0, 0))) (hr : Row .u8 w A ds) :
    Endless Fence.wide 5 Tryz.prog 219 #[.pointer (some ⟨lb, 0, none⟩)] (ritem ds) w.heap.size lb N w := by
  intro l J Jx W hWb hJN hJs hJg hJy hJ0
  have HY := Lib.hid hJy; have HJN := Lib.hid hJN; have HJG := Lib.hid hJg
  have HI := Lib.hid hi; have HL := Lib.hid hL; have HR := Lib.hid hr; have HC := Lib.hid hc; have HWB := Lib.hid hWb
  clear hJy hJN hJs hJg hWb hc hr hi hL
  refine callsIn_of_wp Tryz.func219 rfl trivial ?_ rfl
  simp only [Tryz.ntmps219, List.size_toArray, List.length_cons, List.length_nil, Nat.reduceAdd, Nat.reduceSub, Array.replicate_succ, Array.replicate_zero, List.push_toArray, List.append_toArray, List.nil_append, List.cons_append]
  gi_wp2_with fail
  gi_loopg [3, 4, 5] N (fun g v3 v4 v5 wr => ∃ k : Nat, v3 = .int .i64 ((rs ds k).1 : Int) ∧ v4 = .int .i64 ((rs ds k).2 : Int) ∧ (∃ j : Nat, v5 = .int .i64 (j : Int) ∧ Hid (j = 2 * k)) ∧ k + g = N ∧ Hid (J k wr) ∧ Hid (Below w.heap.size w wr))
  case atStart => exact ⟨0, rfl, rfl, ⟨0, rfl, rfl⟩, by omega, hJ0, HWB.out⟩
  case round =>
    obtain ⟨k, rfl, rfl, ⟨j, rfl, HJK⟩, hk, HJ, HB⟩ := hrel
    have HK := Lib.hid hk
    have hkN := HJN.out k wr HJ.out
    have hRA := rs_root HI.out k
    have hRl := rs_lt HI.out k
    have hp100 := pairAt_lt HI.out k
    obtain ⟨R, hR⟩ : ∃ R, (rs ds k).1 = R := ⟨_, rfl⟩
    obtain ⟨S, hS⟩ : ∃ S, (rs ds k).2 = S := ⟨_, rfl⟩
    have hNX := fun T D hT hD => rs_next (T := T) (D := D) hR hS hT hD
    rw [hR, hS] at hRA ⊢
    rw [hR] at hRl
    obtain ⟨p, hp⟩ : ∃ p, pairAt ds k = p := ⟨_, rfl⟩
    rw [hp] at hNX hp100
    have HP := Lib.hid hp
    have hR13 : R < 10000000000000 := Nat.lt_of_lt_of_le hRl ((show 10 ^ k ≤ 10 ^ 13 from Nat.pow_le_pow_right (by decide) (by omega)))
    have hS2R : S ≤ 2 * R := hRA.2
    have h1000 : L ≤ 1000 := hLc
    obtain ⟨T, hT⟩ : ∃ T, S * 100 + p = T := ⟨_, rfl⟩
    have HNX := Lib.hid (fun D hD => hNX T D hT hD)
    have HT := Lib.hid hT
    have hTl : T < 3000000000000000 := by omega
    have hbx := (HB.out.block lb hlb).trans HC.out
    have c0 := cell_of_heap hbx 0
    simp at c0
    have HBX := Lib.hid hbx
    clear hk hRA hRl hR hS hp hT hbx hNX
    gi_upto_if 14 with fail
    gi_cut [4] from 15 (fun v4 wx => v4 = .int .i64 (T : Int) ∧ Hid (J k wx) ∧ Hid (Below w.heap.size w wx))
    case first =>
      by_cases hjL : j < L
      · have hk2 : 2 * k < ds.length := by rw [HL.out, ← HJK.out]; exact hjL
        have hpi := pairAt_int HI.out hk2
        rw [HP.out, ← HJK.out] at hpi
        have hrow := HR.out.below HB.out
        obtain ⟨a, rfl, hx0⟩ := hrow j (by rw [HL.out]; exact hjL)
        have hj1 : j + 1 < L := by have := HJK.out; omega
        obtain ⟨a', e', hx1⟩ := hrow (j + 1) (by rw [HL.out]; exact hj1)
        cases e'
        have da := HI.out.at_ (by decide) j; have db := HI.out.at_ (by decide) (j + 1)
        rw [List.getD_eq_getElem?_getD] at da db
        obtain ⟨x, hx⟩ : ∃ x, ds[j]?.getD 0 = x := ⟨_, rfl⟩
        obtain ⟨y, hy⟩ : ∃ y, ds[j + 1]?.getD 0 = y := ⟨_, rfl⟩
        rw [hx] at hx0 hpi da; rw [hy] at hx1 hpi db
        have da0 := da.1; have da1 : x < 10 := da.2; have db0 := db.1; have db1 : y < 10 := db.2
        obtain ⟨j', hj'⟩ : ∃ j', j + 1 = j' := ⟨_, rfl⟩
        have hji : (j : Int) + 1 = (j' : Int) := by omega
        rw [hj'] at hx1 hj1
        have hwx : IntKind.i64.wrap x = x := IntWalk.i64_in _ (by omega)
        have hwy : IntKind.i64.wrap y = y := IntWalk.i64_in _ (by omega)
        have hwj : IntKind.i64.wrap ((j : Int) + 1) = (j' : Int) := by rw [hji]; exact IntWalk.i64_in _ (by omega)
        have hfin : (S : Int) * 100 + (10 * x + y) = (T : Int) := by have := HT.out; omega
        have hwf : IntKind.i64.wrap ((S : Int) * 100 + (10 * x + y)) = (T : Int) := by rw [hfin]; exact IntWalk.i64_in _ (by omega)
        have x0d : wr.drew.cell? (a.add j) = _ := hx0
        have x1d : wr.drew.cell? (a.add j') = _ := hx1
        have c0d : wr.drew.cell? ⟨lb, 0, none⟩ = _ := c0
        have HXY := Lib.hid (And.intro hx hy)
        clear hx hy da db hpi hrow hj'
        gi_wp2_with fail
        gi_region
        gi_wp2_with fail
        gi_meet
        case rel => exact ⟨rfl, HJG.out _ _ _ HJ.out ⟨rfl, rfl, rfl, Nat.le_refl _, fun _ _ _ => rfl⟩, HB.out.drew⟩
      · have hp0 : p = 0 := by rw [← HP.out, pairAt, if_neg (by rw [HL.out, ← HJK.out]; exact hjL)]
        have hT0 : (S : Int) * 100 = (T : Int) := by have := HT.out; omega
        have hwT : IntKind.i64.wrap ((S : Int) * 100) = (T : Int) := by rw [hT0]; exact IntWalk.i64_in _ (by omega)
        gi_wp2_with fail
        gi_meet
        case rel => exact ⟨by rw [hT0], HJ.out, HB.out⟩
    case rest =>
      obtain ⟨rfl, HJ1, HB1⟩ := hcut
      obtain ⟨G, rfl⟩ : ∃ G : Nat, G = gk := ⟨_, rfl⟩
      gi_wp2_with fail
      gi_loopg [6] 9 (fun g v6 wx => ∃ d : Nat, v6 = .int .i64 (d : Int) ∧ Hid (d = g) ∧ d ≤ 9 ∧ Hid (down R T d = down R T 9) ∧ wx = wc)
      case atStart => exact ⟨9, rfl, rfl, by omega, rfl, rfl⟩
      case round =>
        obtain ⟨d, rfl, HDG, hd9, HDD, rfl⟩ := hrel
        have hmul : (20 * R + d) * d ≤ (20 * R + 9) * 9 := Nat.mul_le_mul (by omega) hd9
        obtain ⟨X, hX⟩ : ∃ X, (20 * R + d) * d = X := ⟨_, rfl⟩
        rw [hX] at hmul
        have hXi : (20 * (R : Int) + (d : Int)) * (d : Int) = (X : Int) := by rw [← hX]; push_cast; rfl
        have hwX : IntKind.i64.wrap ((20 * (R : Int) + (d : Int)) * (d : Int)) = (X : Int) := by rw [hXi]; exact IntWalk.i64_in _ (by omega)
        have HXX := Lib.hid hX
        clear hX
        by_cases hXT : X ≤ T
        · have hD := down_stop (R := R) (S := T) (d := d) (by rw [HXX.out]; exact hXT)
          rw [HDD.out] at hD
          have HN := Lib.hid (HNX.out d hD)
          obtain ⟨Y, hY⟩ : ∃ Y, T - X = Y := ⟨_, rfl⟩
          have hTX : (T : Int) - (X : Int) = (Y : Int) := by omega
          have hwTX : IntKind.i64.wrap ((T : Int) - (X : Int)) = (Y : Int) := by rw [hTX]; exact IntWalk.i64_in _ (by omega)
          have HYY := Lib.hid hY
          have c1 := cell_of_heap ((HB1.out.block lb hlb).trans HC.out) 0
          simp at c1
          obtain ⟨fn, tmps, assign, body, hy, hR⟩ := HY.out k _ HJ1.out
          rw [HN.out.2.2, HXX.out, hY, HL.out] at hy
          dsimp only at hy
          have hwd : IntKind.u8.wrap (d : Int) = (d : Int) := by rw [show IntKind.u8.wrap (d : Int) = (d : Int) % 256 from rfl]; omega
          have hj2 : (2 * (k : Int) + 2) = (j : Int) + 2 := by have := HJK.out; omega
          rw [hj2] at hy
          obtain ⟨bb, hbb⟩ : ∃ bb, (decide ((Y : Int) > 0) || decide ((j : Int) + 2 < (L : Int))) = bb := ⟨_, rfl⟩
          rw [hbb] at hy
          have h3 : (0 < Y ∧ bb = true) ∨ (¬ 0 < Y ∧ j + 2 < L ∧ bb = true) ∨ (¬ 0 < Y ∧ ¬ j + 2 < L ∧ bb = false) := by
            rw [← hbb]
            by_cases q1 : 0 < Y
            · exact .inl ⟨q1, by simp; omega⟩
            · by_cases q2 : j + 2 < L
              · exact .inr (.inl ⟨q1, q2, by simp; omega⟩)
              · exact .inr (.inr ⟨q1, q2, by simp; omega⟩)
          have hj30 : j < 30 := by have := HJK.out; omega
          have HRR := Lib.hid hR
          have HGG := Lib.hid (show Hid (k + G = N) from HK.out)
          clear hD hY hj2 hbb hR
          rcases h3 with ⟨p1, rfl⟩ | ⟨p1, p2, rfl⟩ | ⟨p1, p2, rfl⟩
          · have p1i : (0 : Int) < (Y : Int) := by omega
            gi_wp2_with fail
            refine HRR.out.mono ?_
            rintro e W3 (⟨rfl, hJ3, hk3⟩ | ⟨rfl, hJx3⟩)
            · gi_wp2_with fail
              go_roundg (G - 1)
              case measure => have := HGG.out.out; omega
              case rel =>
                refine ⟨k + 1, ?_, ?_, ⟨j + 2, by go_num, by have := HJK.out; show _ = _; omega⟩, by have := HGG.out.out; omega, hJ3, HB1.out.trans hk3⟩
                · rw [HN.out.1]; push_cast; rfl
                · rw [HN.out.2.1, HXX.out, HYY.out]
            · gi_wp2_with fail
              refine bodyPost_ret (results_none rfl _ _ _) rfl ?_
              exact ⟨⟨_, rfl⟩, k, hJx3⟩
          · have p2i : (j : Int) + 2 < (L : Int) := by omega
            have p1i : ¬ (0 : Int) < (Y : Int) := by omega
            gi_wp2_with fail
            refine HRR.out.mono ?_
            rintro e W3 (⟨rfl, hJ3, hk3⟩ | ⟨rfl, hJx3⟩)
            · gi_wp2_with fail
              go_roundg (G - 1)
              case measure => have := HGG.out.out; omega
              case rel =>
                refine ⟨k + 1, ?_, ?_, ⟨j + 2, by go_num, by have := HJK.out; show _ = _; omega⟩, by have := HGG.out.out; omega, hJ3, HB1.out.trans hk3⟩
                · rw [HN.out.1]; push_cast; rfl
                · rw [HN.out.2.1, HXX.out, HYY.out]
            · gi_wp2_with fail
              refine bodyPost_ret (results_none rfl _ _ _) rfl ?_
              exact ⟨⟨_, rfl⟩, k, hJx3⟩
          · have p2i : ¬ (j : Int) + 2 < (L : Int) := by omega
            have p1i : ¬ (0 : Int) < (Y : Int) := by omega
            gi_wp2_with fail
            refine HRR.out.mono ?_
            rintro e W3 (⟨rfl, hJ3, hk3⟩ | ⟨rfl, hJx3⟩)
            · gi_wp2_with fail
              go_roundg (G - 1)
              case measure => have := HGG.out.out; omega
              case rel =>
                refine ⟨k + 1, ?_, ?_, ⟨j + 2, by go_num, by have := HJK.out; show _ = _; omega⟩, by have := HGG.out.out; omega, hJ3, HB1.out.trans hk3⟩
                · rw [HN.out.1]; push_cast; rfl
                · rw [HN.out.2.1, HXX.out, HYY.out]
            · gi_wp2_with fail
              refine bodyPost_ret (results_none rfl _ _ _) rfl ?_
              exact ⟨⟨_, rfl⟩, k, hJx3⟩
        · have hd0 : d ≠ 0 := fun e => by
            subst e
            have := HXX.out
            rw [Nat.mul_zero] at this
            omega
          obtain ⟨e, he⟩ : ∃ e, d = e + 1 := ⟨d - 1, by omega⟩
          have hde : (d : Int) - 1 = (e : Int) := by omega
          have hwd : IntKind.i64.wrap ((d : Int) - 1) = (e : Int) := by rw [hde]; exact IntWalk.i64_in _ (by omega)
          have HE := Lib.hid he
          clear he
          gi_wp2_with fail
          go_roundg (gk - 1)
          case measure => have := HDG.out; omega
          case rel =>
            refine ⟨e, by go_num, by have := HDG.out; have := HE.out; show _ = _; omega, by have := HE.out; omega, ?_, rfl⟩
            have h1 := HDD.out
            rw [HE.out, down_step (by rw [← HE.out, HXX.out]; exact hXT)] at h1
            exact h1
end Go.Proofs.YtekbfommnmikbaaGreatDoor
/- Package real: the root. -/
namespace Go.Proofs.YtekbfommnmikbaaGreatDoor
set_option linter.unusedVariables false
set_option linter.unusedSimpArgs false
open Go.RowKit Go.Shelf Go.Proofs
attribute [local go_sem ↓] Go.wp_at_zero Go.wp_at_succ

set_option maxHeartbeats 1000000 in
theorem roots_c (v : Value) (A : Option Addr) (n c : Nat) (hv : v = .slice A n c) (w : World) : Calls Tryz.prog 180 #[v] w fun en w' => en = .returned (.func (.func 219) #[] #[.pointer (some ⟨w.heap.size, 0, none⟩)]) ∧ w' = w.alloc (.cells #[.slice A n c] 93) := by
  subst hv
  go_enter Tryz.func180, Tryz.ntmps180
  go_wp2_with fail
  go_ret
  exact ⟨rfl, rfl⟩

/-- The digits whose pairs are taken, and their exponent. -/
def rootL (M : Nat) (xe : Int) : List Int := if xe.tmod 2 = 0 then (dg 10 M).reverse else [0] ++ (dg 10 M).reverse ++ [0]
def rootE (xe : Int) : Int := if xe.tmod 2 = 0 then xe else xe - 1

set_option maxRecDepth 100000 in
set_option maxHeartbeats 4000000 in
theorem root_c (M : Nat) (xe : Int) (w : World) (hx : RV M xe) (h0 : 0 < M) :
    Calls Tryz.prog 122 #[.agg #[.int .i64 (M : Int), .int .i64 xe]] w fun en w' => ∃ v, en = .returned v ∧ Amt w' v false (firsts (ritem (rootL M xe)) 14) ((rootE xe).tdiv 2 + (((rootL M xe).length / 2 : Nat) : Int) - 14) (lastMore (ritem (rootL M xe)) 14) ∧ Below w.heap.size w w' := by
  obtain ⟨W, hW, k0, k1, hbel, hsz⟩ := bx2h w #[.int .i64 (M : Int), .int .i64 xe] #[.bool false, .slice none 0 0, .int .i64 0, .bool false] 23 95
  have hx12 : (dg 10 M).reverse.length = 12 := by
    rw [List.length_reverse]
    rcases RV_nd hx with h | h
    · exact absurd (nd_pos h0) (by omega)
    · exact h
  have hxe : -111 ≤ xe ∧ xe ≤ 88 := (RV_abs (m := (M : Int)) hx).2
  have hx18 : M < 10 ^ 18 := by have := (RV_abs (m := (M : Int)) hx).1; omega
  have hin := inR_dgR M
  have c00 := cell_of_heap k0 0; have c01 := cell_of_heap k0 1
  simp at c00 c01
  have HSS : Hid (∀ w', Bel (w.heap.size + 2) W w' → w'.cell? ⟨w.heap.size, 0, none⟩ = some (.int .i64 (M : Int)) ∧ w'.cell? ⟨w.heap.size, 1, none⟩ = some (.int .i64 xe) ∧ Bel (w.heap.size + 2) W w') := fun w' h => ⟨(h.to_.cell (p := ⟨w.heap.size, 0, none⟩) (by simp)).trans c00, (h.to_.cell (p := ⟨w.heap.size, 1, none⟩) (by simp)).trans c01, h⟩
  have hbl := Bel.refl (w.heap.size + 2) W (by omega)
  have HK1 := Lib.hid k1; have HBEL := Lib.hid hbel; have HSZ := Lib.hid hsz
  obtain ⟨dl, hdl⟩ : ∃ dl, (dg 10 M).reverse = dl := ⟨_, rfl⟩
  have hrl : rootL M xe = if xe.tmod 2 = 0 then dl else [0] ++ dl ++ [0] := by rw [← hdl]; rfl
  rw [hdl] at hx12 hin
  have HDL := Lib.hid hdl; have HRL := Lib.hid hrl; have H12 := Lib.hid hx12; have HIN := Lib.hid hin
  obtain ⟨x1, x2⟩ := hxe
  clear k0 k1 hbel hsz hx12 hin hdl hrl hx
  go_enter Tryz.func122, Tryz.ntmps122
  go_upto_region 1 with fail
  go_region_held3 (fun w' => w'.cell? ⟨w.heap.size, 0, none⟩ = some (.int .i64 (M : Int)) ∧ w'.cell? ⟨w.heap.size, 1, none⟩ = some (.int .i64 xe) ∧ Bel (w.heap.size + 2) W w')
    ((go_split_ands; (with_reducible refine HSS.out _ ?_); (repeat (first | (with_reducible assumption) | (with_reducible refine Bel.call ?_ hbz) | (with_reducible refine Bel.alloc ?_ _) | (with_reducible refine Bel.drew ?_) | (with_reducible refine Bel.set ?_ _ (by first | exact Nat.le_refl _ | (simp; done) | (simp; omega)))))))
    (first
      | (go_at_call 89; (with_reducible refine (digitsOf_c M _ hx18).mono ?_); rintro en w2 ⟨v, rfl, hv, hf, hbz⟩; rw [HDL.out] at hv; obtain ⟨A9, c9, rfl, hc9, hm9, hr9⟩ := hv; rw [H12.out] at hc9; rw [H12.out]; have HR9 := Lib.hid hr9; have HC9 := Lib.hid (And.intro hc9 hm9); go_split_ands; have HB9 := Lib.hid (below_then' (show Below W.heap.size W _ from by first | exact Below.refl _ _ | exact (Below.refl _ _).drew) hbz); clear hr9 hf hc9 hm9))
  obtain ⟨I0, hi, hz0, hz1, hz3⟩ := info_parts info_byte
  have HI := Lib.hid (And.intro hi (And.intro hz0 (And.intro hz1 hz3)))
  clear hi hz0 hz1 hz3
  have hz2 : W.heap.size ≤ w2.heap.size := HB9.out.size
  go_upto_if 15 with fail
  go_cut [3, 4] from 15 to 22 (fun v3 v4 wx => ∃ A n c, v3 = .slice A n c ∧ v4 = .int .i64 (rootE xe) ∧ (n ≤ c ∧ c ≤ 9223372036854775807) ∧ Hid ((rootL M xe).length = n) ∧ Hid (InR 10 (rootL M xe)) ∧ (n = 12 ∨ n = 14) ∧ Hid (Row .u8 wx A (rootL M xe)) ∧ Hid (Below W.heap.size W wx))
  case first =>
    by_cases hev : xe.tmod 2 = 0
    · have hE : rootE xe = xe := by unfold rootE; rw [if_pos hev]
      have hl := HRL.out
      rw [if_pos hev] at hl
      have HLL := Lib.hid hl
      clear hl
      go_wp2_with fail
      go_meet
      exact ⟨A9, 12, c9, rfl, by rw [hE], HC9.out, by show _ = _; rw [HLL.out]; exact H12.out, by show InR _ _; rw [HLL.out]; exact HIN.out, .inl rfl, by show Row _ _ _ _; rw [HLL.out]; exact HR9.out, HB9.out⟩
    · have hE : rootE xe = xe - 1 := by unfold rootE; rw [if_neg hev]
      have hl := HRL.out
      rw [if_neg hev] at hl
      have HLL := Lib.hid hl
      clear hl
      obtain ⟨a, rfl, -⟩ := HR9.out 0 (by rw [H12.out]; omega)
      have hnews : Hid (∀ (w' : World), Below w2.heap.size w2 w' → ∀ j u, (dl.map (Value.int .u8))[j]? = some u → w'.cell? (a.add j) = some u) := fun w' hb j u hu => by
        have hj : j < dl.length := by
          have := (List.getElem?_eq_some_iff.1 hu).1
          simpa using this
        obtain ⟨a', e, hc⟩ := (HR9.out.below hb) j hj
        cases e
        rw [hc, ← hu, List.getElem?_map, List.getElem?_eq_getElem hj]
        rfl
      have HE := Lib.hid hE
      clear hE
      go_wp2_with (first
        | (at_builtin; refine wpList_append_own _ rfl _ _ 93 rfl W.heap.size 5 I0 (.int .u8 0) 1 1 Tryz.underlying93 HI.out.1 HI.out.2.1 HI.out.2.2.1 HI.out.2.2.2 rfl (by decide) _ 1 [.int .u8 0] rfl (World.ownsRow_lit w2 #[.int .u8 0] 1 hz2 (by unfold maxLen; omega) rfl) a 12 c9 (dl.map (Value.int .u8)) rfl (by rw [List.length_map, H12.out]) (hnews.out _ ((Below.refl _ _).alloc (Nat.le_refl _) _)) (fun u hu => by obtain ⟨x, -, rfl⟩ := List.mem_map.1 hu; rfl) (by unfold maxLen; omega) (by omega) (by simp; omega) ?_; intro v' w3 hown3 hgrow3 _; obtain ⟨g3, cap3, rfl⟩ := own_some' hown3 (by omega); have HO3 := Lib.hid hown3; have HG3 := Lib.hid hgrow3; clear hown3 hgrow3)
        | (at_builtin; refine wpList_append_own _ rfl _ _ 93 rfl W.heap.size 5 I0 (.int .u8 0) 1 1 Tryz.underlying93 HI.out.1 HI.out.2.1 HI.out.2.2.1 HI.out.2.2.2 rfl (by decide) _ (1 + 12) ([.int .u8 0] ++ dl.map (Value.int .u8)) rfl (HO3.out.alloc _) ⟨w3.heap.size, 0, none⟩ 1 1 [.int .u8 0] rfl rfl (cell_one_new _ _ _) (by simp [Value.oneCell']) (by unfold maxLen; omega) (by omega) (by have := HG3.out.size; simp at this; simp; omega) ?_; intro v' w4 hown4 hgrow4 _; obtain ⟨g4, cap4, rfl⟩ := own_some' hown4 (by omega); have HO4 := Lib.hid hown4; have HG4 := Lib.hid hgrow4; clear hown4 hgrow4))
      have hb3 : Below W.heap.size w2 w3 := ((Below.refl W.heap.size w2).alloc hz2 _).grown HG3.out (by simp; omega) (own_from (World.ownsRow_lit (base := W.heap.size) (e := 5) (size := 1) w2 #[.int .u8 0] 1 hz2 (by unfold maxLen; omega) rfl))
      have hz3 : W.heap.size ≤ w3.heap.size := Nat.le_trans hz2 hb3.size
      have hb4 : Below W.heap.size w3 w4 := ((Below.refl W.heap.size w3).alloc hz3 _).grown HG4.out (by simp; omega) (own_from HO3.out)
      have ho4 := HO4.out
      rw [show ([.int .u8 0] ++ dl.map (Value.int .u8)) ++ [.int .u8 0] = ([0] ++ dl ++ [0]).map (Value.int .u8) by simp] at ho4
      obtain ⟨A4, c4, e4, h1, h2, h3, -⟩ := own_row ho4
      simp only [Value.slice.injEq] at e4
      obtain ⟨rfl, -, rfl⟩ := e4
      have hcm : cap4 ≤ 9223372036854775807 := by unfold maxLen at h2; omega
      have h14 : ([0] ++ dl ++ [0]).length = 14 := by simp [H12.out]
      rw [h14] at h1
      go_wp2_with fail
      go_meet
      exact ⟨_, 14, cap4, rfl, by rw [HE.out], ⟨h1, hcm⟩, by show _ = _; rw [HLL.out]; exact h14, by show InR _ _; rw [HLL.out]; intro x hx; simp at hx; rcases hx with rfl | hx | rfl; exact ⟨by decide, by decide⟩; exact HIN.out x hx; exact ⟨by decide, by decide⟩, .inr rfl, by show Row _ _ _ _; rw [HLL.out]; exact h3, HB9.out.trans (hb3.trans hb4)⟩
  case rest =>
    obtain ⟨A, n, c, rfl, rfl, ⟨hnc, hcm⟩, HLN, HIL, hn, HRW, HBW⟩ := hcut
    obtain ⟨ls, hls⟩ : ∃ ls, rootL M xe = ls := ⟨_, rfl⟩
    rw [hls] at HLN HIL HRW
    obtain ⟨E, hE⟩ : ∃ E, rootE xe = E := ⟨_, rfl⟩
    have hE1 : -112 ≤ E ∧ E ≤ 88 := by rw [← hE]; unfold rootE; split <;> omega
    rw [hE]
    have HLS := Lib.hid hls; have HEE := Lib.hid hE
    obtain ⟨e1, e2⟩ := hE1
    have hzc : W.heap.size ≤ wc.heap.size := HBW.out.size
    obtain ⟨q, hq⟩ : ∃ q, E.tdiv 2 = q := ⟨_, rfl⟩
    have hq1 : -60 ≤ q ∧ q ≤ 60 := by
      have h1 := Int.mul_tdiv_add_tmod E 2
      have h2 : -2 < E.tmod 2 ∧ E.tmod 2 < 2 := by
        rcases Int.le_total 0 E with h | h
        · obtain ⟨k, rfl⟩ := Int.eq_ofNat_of_zero_le h
          have : ((k : Int).tmod 2) = ((k % 2 : Nat) : Int) := rfl
          rw [this]; omega
        · obtain ⟨k, hk⟩ := Int.eq_ofNat_of_zero_le (show 0 ≤ -E by omega)
          obtain rfl : E = -(k : Int) := by omega
          have : ((k : Int).tmod 2) = ((k % 2 : Nat) : Int) := rfl
          rw [Int.neg_tmod, this]; omega
      omega
    obtain ⟨q1, q2⟩ := hq1
    obtain ⟨h, hh⟩ : ∃ h : Nat, n / 2 = h := ⟨_, rfl⟩
    have hhi : (n : Int) / 2 = (h : Int) := by omega
    have hh7 : h ≤ 7 := by omega
    have HH := Lib.hid hh
    obtain ⟨more, hmore⟩ : ∃ more, lastMore (ritem ls) 14 = more := ⟨_, rfl⟩
    have HMO := Lib.hid hmore
    clear hls hE hh hmore
    go_wp2_with (first
      | (go_at_call 180; refine (roots_c _ A n c rfl _).mono ?_; rintro en wq ⟨rfl, hwq⟩; have hq0 : wq.heap[wc.heap.size]? = some (.cells #[.slice A n c] 93 (0, 0)) := (by rw [hwq]; exact heap_alloc_new wc _); have hzq : wq.heap.size = wc.heap.size + 1 := (by rw [hwq]; simp); have hbq : Below wc.heap.size wc wq := (by rw [hwq]; exact (Below.refl _ _).alloc (Nat.le_refl _) _); have HQ0 := Lib.hid hq0; have HBQ := Lib.hid hbq; clear hwq hq0 hbq)
      | (go_at_call 178; refine (taken_c 219 _ (ritem ls) 14 wc.heap.size wq (enters_of Tryz.func219 (by kernel_rfl) rfl) (rt1_endless A c ls wc.heap.size n 14 wq HIL.out HLN.out (by omega) (by omega) (by decide) (by omega) HQ0.out (HRW.out.below HBQ.out)) (by omega) (ritem_dig ls) (by decide) (by decide)).mono ?_; rintro en W9 ⟨A8, c8, rfl, hc8, hm8, hr8, hk8⟩; have HR8 := Lib.hid hr8; have HC8 := Lib.hid (And.intro hc8 hm8); have HK8 := Lib.hid hk8; have qx := hk8.heap (heapB HBQ.out (heapB HBW.out HK1.out)) (by have := HSZ.out; omega); have HQX := Lib.hid qx; have p0 := cell_of_heap qx 0; have p1 := cell_of_heap qx 1; have p2 := cell_of_heap qx 2; have p3 := cell_of_heap qx 3; have y0 := free_of_heap qx 0; have y1 := free_of_heap qx 1; have y2 := free_of_heap qx 2; have y3 := free_of_heap qx 3; simp at p0 p1 p2 p3; clear hr8 hc8 hm8 hk8 qx; rw [HMO.out]))
    obtain ⟨F, hF, hb, hk, ho⟩ := amt_put (s := false) (n := 14) (c := c8) (A := A8) (e := q + h - 14) (more := more) HQX.out
    rw [hF]
    have r0 := cell_of_heap hb 0; have r1 := cell_of_heap hb 1; have r2 := cell_of_heap hb 2; have r3 := cell_of_heap hb 3
    simp at r0 r1 r2 r3
    refine bodyPost_ret (v := .agg #[.bool false, .slice A8 14 c8, .int .i64 (q + h - 14), .bool more]) (by simp [results, Tryz.results122, go_sem, r0, r1, r2, r3]) rfl ?_
    rw [HLS.out, HEE.out, hq, HLN.out, HH.out, HMO.out]
    have hl := firsts_length (ritem ls) 14
    have hzw := HSZ.out
    exact ⟨_, rfl, ⟨A8, c8, by rw [hl], by rw [hl]; exact HC8.out.1, HC8.out.2, row_off HR8.out HQX.out amt_cells ho⟩, hk _ _ (by omega) (HBEL.out.trans ((HBW.out.mono (by omega)).trans ((HBQ.out.mono (by omega)).trans ((HK8.out.below (by omega)).mono (by omega)))))⟩
end Go.Proofs.YtekbfommnmikbaaGreatDoor
/- Package real: Valid, the places of reals. -/
namespace Go.Proofs.YtekbfommnmikbaaGreatDoor
set_option linter.unusedVariables false
set_option linter.unusedSimpArgs false
open Go.RowKit Go.Shelf Go.Proofs
attribute [local go_sem ↓] Go.wp_at_zero Go.wp_at_succ

instance (m : Nat) (e : Int) : Decidable (RV m e) := by unfold RV; infer_instance

theorem size_any (n : Int) (w : World) (h0 : -9223372036854775808 ≤ n) (h1 : n ≤ 9223372036854775807) :
    Calls Tryz.prog 100 #[.int .i64 n] w fun e w' => ∃ k : Int, e = .returned (.int .i64 k) ∧ w = w' ∧ ((k = (n.natAbs : Int) ∧ n.natAbs ≤ 9223372036854775807) ∨ (k = -9223372036854775808 ∧ n.natAbs = 9223372036854775808)) := by
  by_cases h : n = -9223372036854775808
  · subst h
    go_enter Tryz.func100, Tryz.ntmps100
    go_wp2_with fail
    go_ret
    refine ⟨-9223372036854775808, ?_, rfl, .inr ⟨rfl, rfl⟩⟩
    show Ending.returned (Value.int .i64 (wrap64 9223372036854775808)) = _
    rw [show wrap64 9223372036854775808 = -9223372036854775808 from by first | kernel_rfl | (unfold wrap64; decide) | simp [wrap64]]
  · refine (size_c n w (by omega) h1).mono ?_
    rintro e w' ⟨rfl, rfl⟩
    exact ⟨_, rfl, rfl, .inl ⟨rfl, by omega⟩⟩

set_option maxRecDepth 100000 in
set_option maxHeartbeats 2000000 in
theorem validR_c (m e : Int) (w : World) (hm : -9223372036854775808 ≤ m) (hm2 : m ≤ 9223372036854775807) :
    Calls Tryz.prog 33 #[.agg #[.int .i64 m, .int .i64 e]] w fun en w' => en = .returned (.bool (decide (RV m.natAbs e))) ∧ Below w.heap.size w w' := by
  obtain ⟨b, hb⟩ : ∃ b, decide (RV m.natAbs e) = b := ⟨_, rfl⟩
  rw [hb]
  have HB := Lib.hid hb
  have hal : Below w.heap.size w (w.alloc (.cells #[.int .i64 m, .int .i64 e] 23)) := (Below.refl _ _).alloc (Nat.le_refl _) _
  have HAL := Lib.hid hal
  have c0 : (w.alloc (.cells #[.int .i64 m, .int .i64 e] 23)).cell? ⟨w.heap.size, 0, none⟩ = some (.int .i64 m) := cell_of_heap (heap_alloc_new _ _) 0
  have c1 : (w.alloc (.cells #[.int .i64 m, .int .i64 e] 23)).cell? ⟨w.heap.size, 1, none⟩ = some (.int .i64 e) := cell_of_heap (heap_alloc_new _ _) 1
  obtain ⟨W, hW⟩ : ∃ W, w.alloc (.cells #[.int .i64 m, .int .i64 e] 23) = W := ⟨_, rfl⟩
  rw [hW] at c0 c1 HAL
  clear hal hb
  by_cases h0 : m = 0
  · have hb := HB.out
    by_cases he : e = 0
    · obtain rfl : b = true := by rw [← hb, h0, he]; decide
      clear hb
      go_enter Tryz.func33, Tryz.ntmps33
      go_wp2_with fail
      go_ret
      exact ⟨rfl, (Below.refl _ _).alloc (Nat.le_refl _) _⟩
    · obtain rfl : b = false := by rw [← hb]; apply decide_eq_false; unfold RV; omega
      clear hb
      go_enter Tryz.func33, Tryz.ntmps33
      go_wp2_with fail
      go_ret
      have he' : (e == 0) = false := by simp [he]
      refine ⟨?_, (Below.refl _ _).alloc (Nat.le_refl _) _⟩
      show Ending.returned (Value.bool (e == 0)) = _
      rw [he']
  · have key : ∀ k : Int, ((k = (m.natAbs : Int) ∧ m.natAbs ≤ 9223372036854775807) ∨ (k = -9223372036854775808 ∧ m.natAbs = 9223372036854775808)) → b = decide (100000000000 ≤ k ∧ k < 1000000000000 ∧ -111 ≤ e ∧ e ≤ 88) := by
      intro k hk
      rw [← HB.out]
      unfold RV
      apply decide_eq_decide.2
      omega
    have HKEY := Lib.hid key
    clear key
    go_enter Tryz.func33, Tryz.ntmps33
    go_upto_region 4 with (go_at_call 100; refine (size_any m _ hm hm2).mono ?_; rintro en w' ⟨k, rfl, rfl, hk⟩; have HK := Lib.hid (HKEY.out k hk); clear hk)
    have hb := HK.out
    by_cases k1 : 100000000000 ≤ k
    · by_cases k2 : k < 1000000000000
      · by_cases k3 : -111 ≤ e
        · by_cases k4 : e ≤ 88
          · obtain rfl : b = true := by rw [hb]; exact decide_eq_true ⟨k1, k2, k3, k4⟩
            clear hb
            go_wp2_with fail
            go_ret
            exact ⟨rfl, HAL.out⟩
          · obtain rfl : b = false := by rw [hb]; apply decide_eq_false; omega
            clear hb
            go_wp2_with fail
            go_ret
            exact ⟨rfl, HAL.out⟩
        · obtain rfl : b = false := by rw [hb]; apply decide_eq_false; omega
          clear hb
          go_wp2_with fail
          go_ret
          exact ⟨rfl, HAL.out⟩
      · obtain rfl : b = false := by rw [hb]; apply decide_eq_false; omega
        clear hb
        go_wp2_with fail
        go_ret
        exact ⟨rfl, HAL.out⟩
    · obtain rfl : b = false := by rw [hb]; apply decide_eq_false; omega
      clear hb
      go_wp2_with fail
      go_ret
      exact ⟨rfl, HAL.out⟩

set_option maxHeartbeats 1000000 in
theorem negated_c (m e : Int) (w : World) (hm : -9223372036854775807 ≤ m) (hm2 : m ≤ 9223372036854775807) :
    Calls Tryz.prog 113 #[.agg #[.int .i64 m, .int .i64 e]] w fun en w' => en = .returned (.agg #[.int .i64 (-m), .int .i64 e]) ∧ Below w.heap.size w w' := by
  obtain ⟨W, hW, k0, k1, hbel, hsz⟩ := bx2h w #[.int .i64 m, .int .i64 e] #[.int .i64 0, .int .i64 0] 23 23
  have c00 := cell_of_heap k0 0; have c01 := cell_of_heap k0 1; have d0 := cell_of_heap k1 0; have d1 := cell_of_heap k1 1; have f0 := free_of_heap k1 0; have f1 := free_of_heap k1 1
  simp at c00 c01 d0 d1
  have HK1 := Lib.hid k1; have HBEL := Lib.hid hbel
  clear k0 k1 hbel
  go_enter Tryz.func113, Tryz.ntmps113
  go_wp2_with fail
  have h1 := putB (putB HK1.out 0 (.int .i64 (-m))) 1 (.int .i64 e)
  have r0 := cell_of_heap h1 0; have r1 := cell_of_heap h1 1
  simp at r0 r1
  refine bodyPost_ret (v := .agg #[.int .i64 (-m), .int .i64 e]) (by simp [results, Tryz.results113, go_sem, r0, r1]) rfl ?_
  exact ⟨rfl, (HBEL.out.setCell (p := ⟨w.heap.size + 1, 0, none⟩) (by simp) _).setCell (p := ⟨w.heap.size + 1, 1, none⟩) (by simp) _⟩

/-- The place of a real. -/
def plP (m : Nat) (e : Int) : Int := 1 + (e + 111) * 900000000000 + m - 100000000000
def plR (m e : Int) : Int := if m = 0 then 0 else if m < 0 then -plP m.natAbs e else plP m.natAbs e
set_option maxHeartbeats 2000000 in
theorem place_pos (m e : Int) (w : World) (h : RV m.natAbs e) (h0 : 0 < m) :
    Calls Tryz.prog 129 #[.agg #[.int .i64 m, .int .i64 e]] w fun en w' => en = .returned (.int .i64 (plP m.natAbs e)) ∧ Below w.heap.size w w' := by
  obtain ⟨a1, a2, a3⟩ := RV_abs h
  have hr : plP m.natAbs e = 1 + (e - -111) * 900000000000 + m - 100000000000 := by unfold plP; omega
  rw [hr]
  have n0 : ¬ m = 0 := by omega
  have n1 : ¬ m < 0 := by omega
  have n2 : m < 1000000000000 := by omega
  clear h hr
  go_enter Tryz.func129, Tryz.ntmps129
  go_wp2_with fail
  go_ret
  exact ⟨rfl, (Below.refl _ _).alloc (Nat.le_refl _) _⟩

set_option maxHeartbeats 2000000 in
theorem place_c (m e : Int) (w : World) (h : RV m.natAbs e) :
    Calls Tryz.prog 129 #[.agg #[.int .i64 m, .int .i64 e]] w fun en w' => en = .returned (.int .i64 (plR m e)) ∧ Below w.heap.size w w' := by
  obtain ⟨a1, a2, a3⟩ := RV_abs h
  by_cases h0 : m = 0
  · have hr : plR m e = 0 := by unfold plR; rw [if_pos h0]
    rw [hr]
    clear hr h
    go_enter Tryz.func129, Tryz.ntmps129
    go_wp2_with fail
    go_ret
    exact ⟨rfl, (Below.refl _ _).alloc (Nat.le_refl _) _⟩
  by_cases h1 : m < 0
  · have hr : plR m e = -plP m.natAbs e := by unfold plR; rw [if_neg h0, if_pos h1]
    rw [hr]
    have HPL := Lib.hid (fun w' => place_pos (-m) e w' (by rw [Int.natAbs_neg]; exact h) (by omega))
    have hnm : (-m).natAbs = m.natAbs := Int.natAbs_neg m
    rw [hnm] at HPL
    have hb : 0 ≤ plP m.natAbs e ∧ plP m.natAbs e ≤ 180000000000000 := by
      unfold RV at h; unfold plP; omega
    obtain ⟨p, hp⟩ : ∃ p, plP m.natAbs e = p := ⟨_, rfl⟩
    rw [hp] at HPL hb ⊢
    obtain ⟨b1, b2⟩ := hb
    have m1 : -9223372036854775807 ≤ m := by omega
    have m2 : m ≤ 9223372036854775807 := by omega
    clear hr hp hnm h
    go_enter Tryz.func129, Tryz.ntmps129
    go_wp2_with (first
      | (go_at_call 113; refine (negated_c m e _ m1 m2).mono ?_; rintro en w2 ⟨rfl, hbz⟩; have HB2 := Lib.hid hbz; clear hbz)
      | (go_at_call 129; refine (HPL.out _).mono ?_; rintro en w3 ⟨rfl, hbz⟩; have HB3 := Lib.hid hbz; clear hbz))
    go_ret
    exact ⟨rfl, belowT (belowT ((Below.refl _ _).alloc (Nat.le_refl _) _) HB2.out) HB3.out⟩
  · have hr : plR m e = plP m.natAbs e := by unfold plR; rw [if_neg h0, if_neg h1]
    rw [hr]
    exact place_pos m e w h (by omega)

end Go.Proofs.YtekbfommnmikbaaGreatDoor
/- Package real: steps. -/
namespace Go.Proofs.YtekbfommnmikbaaGreatDoor
set_option linter.unusedVariables false
set_option linter.unusedSimpArgs false
open Go.RowKit Go.Shelf Go.Proofs
attribute [local go_sem ↓] Go.wp_at_zero Go.wp_at_succ

theorem plR_bounds {m e : Int} (h : RV m.natAbs e) : -180000000000000 ≤ plR m e ∧ plR m e ≤ 180000000000000 := by
  unfold plR plP
  unfold RV at h
  split
  · omega
  · split <;> omega

set_option maxRecDepth 100000 in
set_option maxHeartbeats 4000000 in
theorem steps_c (xm xe ym ye : Int) (w : World) (hx0 : -9223372036854775808 ≤ xm) (hx1 : xm ≤ 9223372036854775807) (hy0 : -9223372036854775808 ≤ ym) (hy1 : ym ≤ 9223372036854775807) :
    Calls Tryz.prog 57 #[.agg #[.int .i64 xm, .int .i64 xe], .agg #[.int .i64 ym, .int .i64 ye]] w fun en w' => en = .returned (if RV xm.natAbs xe ∧ RV ym.natAbs ye then .tuple #[.int .i64 (plR ym ye - plR xm xe), .int .i64 0] else .tuple #[.int .i64 0, .int .i64 1]) ∧ Below w.heap.size w w' := by
  obtain ⟨W, hW, k0, k1, hbel, hsz⟩ := bx2h w #[.int .i64 xm, .int .i64 xe] #[.int .i64 ym, .int .i64 ye] 23 23
  have HK0 := Lib.hid k0; have HK1 := Lib.hid k1; have HBEL := Lib.hid hbel; have HSZ := Lib.hid hsz
  have c00 := cell_of_heap k0 0; have c01 := cell_of_heap k0 1; have c10 := cell_of_heap k1 0; have c11 := cell_of_heap k1 1
  simp at c00 c01 c10 c11
  have HV1 := Lib.hid (fun w' => validR_c xm xe w' hx0 hx1)
  have HV2 := Lib.hid (fun w' => validR_c ym ye w' hy0 hy1)
  clear k0 k1 hbel hsz
  by_cases hx : RV xm.natAbs xe
  · have ed : decide (RV xm.natAbs xe) = true := decide_eq_true hx
    rw [ed] at HV1
    by_cases hy : RV ym.natAbs ye
    · have ed2 : decide (RV ym.natAbs ye) = true := decide_eq_true hy
      rw [ed2] at HV2
      rw [if_pos ⟨hx, hy⟩]
      have HP1 := Lib.hid (fun w' => place_c xm xe w' hx)
      have HP2 := Lib.hid (fun w' => place_c ym ye w' hy)
      obtain ⟨b1, b2⟩ := plR_bounds hx
      obtain ⟨b3, b4⟩ := plR_bounds hy
      obtain ⟨p, hp⟩ : ∃ p, plR xm xe = p := ⟨_, rfl⟩
      obtain ⟨q, hq⟩ : ∃ q, plR ym ye = q := ⟨_, rfl⟩
      rw [hp] at HP1 b1 b2 ⊢
      rw [hq] at HP2 b3 b4 ⊢
      clear hp hq hx hy ed ed2
      go_enter Tryz.func57, Tryz.ntmps57
      go_upto_region 3 with (first
        | (go_at_call 33; (with_reducible refine (HV1.out _).mono ?_); rintro en w2 ⟨rfl, hbz⟩; have c10 := keep_cell hbz c10; have c11 := keep_cell hbz c11; have c00 := keep_cell hbz c00; have c01 := keep_cell hbz c01; have HB2 := Lib.hid hbz; clear hbz)
        | (go_at_call 33; (with_reducible refine (HV2.out _).mono ?_); rintro en w3 ⟨rfl, hbz⟩; have c10 := keep_cell hbz c10; have c11 := keep_cell hbz c11; have c00 := keep_cell hbz c00; have c01 := keep_cell hbz c01; have HB3 := Lib.hid hbz; clear hbz))
      have HSS : Hid (∀ w', Bel w3.heap.size w3 w' → w'.cell? ⟨w.heap.size, 0, none⟩ = some (.int .i64 xm) ∧ w'.cell? ⟨w.heap.size, 1, none⟩ = some (.int .i64 xe) ∧ w'.cell? ⟨w.heap.size + 1, 0, none⟩ = some (.int .i64 ym) ∧ w'.cell? ⟨w.heap.size + 1, 1, none⟩ = some (.int .i64 ye) ∧ Bel w3.heap.size w3 w') := fun w' h => ⟨keep_cell h.to_ c00, keep_cell h.to_ c01, keep_cell h.to_ c10, keep_cell h.to_ c11, h⟩
      have hbl := Bel.refl w3.heap.size w3 (Nat.le_refl _)
      go_region_held3 (fun w' => w'.cell? ⟨w.heap.size, 0, none⟩ = some (.int .i64 xm) ∧ w'.cell? ⟨w.heap.size, 1, none⟩ = some (.int .i64 xe) ∧ w'.cell? ⟨w.heap.size + 1, 0, none⟩ = some (.int .i64 ym) ∧ w'.cell? ⟨w.heap.size + 1, 1, none⟩ = some (.int .i64 ye) ∧ Bel w3.heap.size w3 w')
        ((go_split_ands; (with_reducible refine HSS.out _ ?_); (repeat (first | (with_reducible assumption) | (with_reducible refine Bel.call ?_ hbz) | (with_reducible refine Bel.alloc ?_ _) | (with_reducible refine Bel.drew ?_) | (with_reducible refine Bel.set ?_ _ (by first | exact Nat.le_refl _ | (simp; done) | (simp; omega)))))))
        (first
          | (go_at_call 129; (with_reducible refine (HP1.out _).mono ?_); rintro en w' ⟨rfl, hbz⟩)
          | (go_at_call 129; (with_reducible refine (HP2.out _).mono ?_); rintro en w' ⟨rfl, hbz⟩))
      all_goals
        go_split_ands
        go_wp2_with fail
        go_ret2
        refine ⟨?_, belowT (belowT (belowT HBEL.out HB2.out) HB3.out) (show Below w3.heap.size w3 _ from Bel.to_ (by assumption))⟩
        first | rfl | (show Ending.returned (Value.tuple #[.int .i64 (IntKind.i64.wrap (q - p)), .int .i64 0]) = _; rw [IntWalk.i64_in (q - p) (by omega)])
    · have ed2 : decide (RV ym.natAbs ye) = false := decide_eq_false hy
      rw [ed2] at HV2
      rw [if_neg (fun h => hy h.2)]
      clear ed ed2 hx hy
      go_enter Tryz.func57, Tryz.ntmps57
      go_wp2_with (first
        | (go_at_call 33; (with_reducible refine (HV1.out _).mono ?_); rintro en w2 ⟨rfl, hbz⟩; have c10 := keep_cell hbz c10; have c11 := keep_cell hbz c11; have HB2 := Lib.hid hbz; clear hbz)
        | (go_at_call 33; (with_reducible refine (HV2.out _).mono ?_); rintro en w3 ⟨rfl, hbz⟩; have HB3 := Lib.hid hbz; clear hbz))
      go_ret2
      exact ⟨rfl, belowT (belowT HBEL.out HB2.out) HB3.out⟩
  · have ed : decide (RV xm.natAbs xe) = false := decide_eq_false hx
    rw [ed] at HV1
    rw [if_neg (fun h => hx h.1)]
    clear ed hx
    go_enter Tryz.func57, Tryz.ntmps57
    go_wp2_with (go_at_call 33; (with_reducible refine (HV1.out _).mono ?_); rintro en w2 ⟨rfl, hbz⟩; have HB2 := Lib.hid hbz; clear hbz)
    go_ret2
    exact ⟨rfl, belowT HBEL.out HB2.out⟩
end Go.Proofs.YtekbfommnmikbaaGreatDoor
/- Package real: Cmp, Neg. -/
namespace Go.Proofs.YtekbfommnmikbaaGreatDoor
set_option linter.unusedVariables false
set_option linter.unusedSimpArgs false
open Go.RowKit Go.Shelf Go.Proofs
attribute [local go_sem ↓] Go.wp_at_zero Go.wp_at_succ

end Go.Proofs.YtekbfommnmikbaaGreatDoor
/- Package real: Root. -/
namespace Go.Proofs.YtekbfommnmikbaaGreatDoor
set_option linter.unusedVariables false
set_option linter.unusedSimpArgs false
open Go.RowKit Go.Shelf Go.Proofs
attribute [local go_sem ↓] Go.wp_at_zero Go.wp_at_succ

theorem tdiv2_bounds {E : Int} (h1 : -112 ≤ E) (h2 : E ≤ 88) : -60 ≤ E.tdiv 2 ∧ E.tdiv 2 ≤ 60 := by
  have h3 := Int.mul_tdiv_add_tmod E 2
  have h4 : -2 < E.tmod 2 ∧ E.tmod 2 < 2 := by
    rcases Int.le_total 0 E with h | h
    · obtain ⟨k, rfl⟩ := Int.eq_ofNat_of_zero_le h
      rw [show ((k : Int).tmod 2) = ((k % 2 : Nat) : Int) from rfl]; omega
    · obtain ⟨k, hk⟩ := Int.eq_ofNat_of_zero_le (show 0 ≤ -E by omega)
      obtain rfl : E = -(k : Int) := by omega
      rw [Int.neg_tmod, show ((k : Int).tmod 2) = ((k % 2 : Nat) : Int) from rfl]; omega
  omega
/-- What the root is rounded to. -/
def rootX (M : Nat) (xe : Int) : Int := (rootE xe).tdiv 2 + (((rootL M xe).length / 2 : Nat) : Int) - 14
def rootV (M : Nat) (xe : Int) : Option (Nat × Int) := rnd (vd (withMore (firsts (ritem (rootL M xe)) 14) (lastMore (ritem (rootL M xe)) 14))).toNat (expMore (rootX M xe) (lastMore (ritem (rootL M xe)) 14))
theorem rootX_bounds {M : Nat} {xe : Int} (h : RV M xe) : -100 ≤ rootX M xe ∧ rootX M xe ≤ 100 := by
  have hx := (RV_abs (m := (M : Int)) h).2
  have hl : (rootL M xe).length ≤ 14 := by
    have h1 := dgR_len (m := (M : Int)) h
    have h2 : (M : Int).natAbs = M := rfl
    rw [h2] at h1
    unfold rootL
    split
    · omega
    · rw [List.length_append, List.length_append]; simp only [List.length_cons, List.length_nil]; omega
  have hE : -112 ≤ rootE xe ∧ rootE xe ≤ 88 := by unfold rootE; split <;> omega
  have := tdiv2_bounds hE.1 hE.2
  unfold rootX
  omega
theorem rootRounded (M : Nat) (xe : Int) (w : World) {v : Value} (h : RV M xe) (ha : Amt w v false (firsts (ritem (rootL M xe)) 14) (rootX M xe) (lastMore (ritem (rootL M xe)) 14)) :
    Calls Tryz.prog 88 #[v] w fun en w' => en = .returned (resR false (rootV M xe)) ∧ Below w.heap.size w w' := by
  have hb := rootX_bounds h
  exact rounded_a ha (firsts_inR (ritem_dig _) 14) (by rw [firsts_length]; omega) (by omega) (by omega)
end Go.Proofs.YtekbfommnmikbaaGreatDoor
/- Package real: Root. -/
namespace Go.Proofs.YtekbfommnmikbaaGreatDoor
set_option linter.unusedVariables false
set_option linter.unusedSimpArgs false
open Go.RowKit Go.Shelf Go.Proofs
attribute [local go_sem ↓] Go.wp_at_zero Go.wp_at_succ

/-- What Root returns. -/
def rootR (m e : Int) : Value :=
  if ¬ RV m.natAbs e then .tuple #[.agg #[.int .i64 0, .int .i64 0], .int .i64 1]
  else if m < 0 then .tuple #[.agg #[.int .i64 0, .int .i64 0], .int .i64 5]
  else if m = 0 then .tuple #[.agg #[.int .i64 m, .int .i64 e], .int .i64 0]
  else resR false (rootV m.natAbs e)

theorem res_form (s : Bool) (o : Option (Nat × Int)) : ∃ a b c, resR s o = .tuple #[.agg #[.int .i64 a, .int .i64 b], .int .i64 c] := by
  rcases o with _ | ⟨m, x⟩
  · exact ⟨0, 0, 3, rfl⟩
  · exact ⟨sgm s m, x, 0, rfl⟩

set_option maxRecDepth 100000 in
set_option maxHeartbeats 4000000 in
theorem rootR_c (m e : Int) (w : World) (h0 : -9223372036854775808 ≤ m) (h1 : m ≤ 9223372036854775807) :
    Calls Tryz.prog 48 #[.agg #[.int .i64 m, .int .i64 e]] w fun en w' => en = .returned (rootR m e) ∧ Below w.heap.size w w' := by
  obtain ⟨W, hW, k0, k1, hbel, hsz⟩ := bx2h w #[.int .i64 m, .int .i64 e] #[.int .i64 0, .int .i64 0] 23 23
  have HK1 := Lib.hid k1; have HBEL := Lib.hid hbel
  have c00 := cell_of_heap k0 0; have c01 := cell_of_heap k0 1
  simp at c00 c01
  have HV := Lib.hid (fun w' => validR_c m e w' h0 h1)
  clear k0 k1 hbel hsz
  have fin0 : ∀ (w2 : World) (a b : Int), Below W.heap.size W w2 → (((w2.setCell ⟨w.heap.size + 1, 0, none⟩ (.int .i64 a)).setCell ⟨w.heap.size + 1, 1, none⟩ (.int .i64 b)).cell? ⟨w.heap.size + 1, 0, none⟩ = some (.int .i64 a) ∧ ((w2.setCell ⟨w.heap.size + 1, 0, none⟩ (.int .i64 a)).setCell ⟨w.heap.size + 1, 1, none⟩ (.int .i64 b)).cell? ⟨w.heap.size + 1, 1, none⟩ = some (.int .i64 b) ∧ Below w.heap.size w ((w2.setCell ⟨w.heap.size + 1, 0, none⟩ (.int .i64 a)).setCell ⟨w.heap.size + 1, 1, none⟩ (.int .i64 b))) := fun w2 a b hb => by
    have h9 := putB (putB (heapB hb HK1.out) 0 (.int .i64 a)) 1 (.int .i64 b)
    have r0 := cell_of_heap h9 0; have r1 := cell_of_heap h9 1
    simp at r0 r1
    exact ⟨r0, r1, ((belowT HBEL.out hb).setCell (p := ⟨w.heap.size + 1, 0, none⟩) (by simp) _).setCell (p := ⟨w.heap.size + 1, 1, none⟩) (by simp) _⟩
  have FIN := Lib.hid fin0
  clear fin0
  by_cases h : RV m.natAbs e
  · have ed : decide (RV m.natAbs e) = true := decide_eq_true h
    rw [ed] at HV
    have hnn : ¬ ¬ RV m.natAbs e := fun x => x h
    by_cases n0 : m < 0
    · have hr : rootR m e = .tuple #[.agg #[.int .i64 0, .int .i64 0], .int .i64 5] := by unfold rootR; rw [if_neg hnn, if_pos n0]
      rw [hr]
      clear hr hnn ed h
      go_enter Tryz.func48, Tryz.ntmps48
      go_wp2_with (go_at_call 33; refine (HV.out _).mono ?_; rintro en w2 ⟨rfl, hbz⟩; have q := heapB hbz HK1.out; have d0 := cell_of_heap q 0; have d1 := cell_of_heap q 1; have f0 := free_of_heap q 0; have f1 := free_of_heap q 1; have c00 := keep_cell hbz c00; have c01 := keep_cell hbz c01; simp at d0 d1; have HB2 := Lib.hid hbz; clear hbz q)
      obtain ⟨r0, r1, hbb⟩ := FIN.out w2 0 0 HB2.out
      refine bodyPost_ret (v := .tuple #[.agg #[.int .i64 0, .int .i64 0], .int .i64 5]) (by simp [results, Tryz.results48, go_sem, r0, r1]) rfl ?_
      exact ⟨rfl, hbb⟩
    by_cases n1 : m = 0
    · have n2 : e = 0 := by unfold RV at h; omega
      subst n1
      subst n2
      have hr : rootR 0 0 = .tuple #[.agg #[.int .i64 0, .int .i64 0], .int .i64 0] := by unfold rootR; rw [if_neg hnn, if_neg n0, if_pos rfl]
      rw [hr]
      clear hr hnn ed h n0
      go_enter Tryz.func48, Tryz.ntmps48
      go_wp2_with (go_at_call 33; refine (HV.out _).mono ?_; rintro en w2 ⟨rfl, hbz⟩; have q := heapB hbz HK1.out; have d0 := cell_of_heap q 0; have d1 := cell_of_heap q 1; have f0 := free_of_heap q 0; have f1 := free_of_heap q 1; have c00 := keep_cell hbz c00; have c01 := keep_cell hbz c01; simp at d0 d1; have HB2 := Lib.hid hbz; clear hbz q)
      obtain ⟨r0, r1, hbb⟩ := FIN.out w2 0 0 HB2.out
      refine bodyPost_ret (v := .tuple #[.agg #[.int .i64 0, .int .i64 0], .int .i64 0]) (by simp [results, Tryz.results48, go_sem, r0, r1]) rfl ?_
      exact ⟨rfl, hbb⟩
    · have hr : rootR m e = resR false (rootV m.natAbs e) := by unfold rootR; rw [if_neg hnn, if_neg n0, if_neg n1]
      rw [hr]
      obtain ⟨M, hM⟩ : ∃ M : Nat, m = (M : Int) := ⟨m.toNat, by omega⟩
      have hMa : m.natAbs = M := by omega
      rw [hMa] at h ⊢
      have HRT := Lib.hid (fun w' => root_c M e w' h (by omega))
      have HRR := Lib.hid (fun (w' : World) (v : Value) (ha : Amt w' v false (firsts (ritem (rootL M e)) 14) (rootX M e) (lastMore (ritem (rootL M e)) 14)) => rootRounded M e w' h ha)
      obtain ⟨a, b, c, hf⟩ := res_form false (rootV M e)
      rw [hf] at HRR ⊢
      rw [← hM] at HRT
      have m1 : 0 < m := by omega
      have HMM := Lib.hid hM
      clear hr hnn ed h hMa hf hM
      go_enter Tryz.func48, Tryz.ntmps48
      go_wp2_with (first
        | (go_at_call 33; refine (HV.out _).mono ?_; rintro en w2 ⟨rfl, hbz⟩; have q := heapB hbz HK1.out; have d0 := cell_of_heap q 0; have d1 := cell_of_heap q 1; have f0 := free_of_heap q 0; have f1 := free_of_heap q 1; have c00 := keep_cell hbz c00; have c01 := keep_cell hbz c01; simp at d0 d1; have HB2 := Lib.hid hbz; clear hbz q)
        | (go_at_call 122; refine (HRT.out _).mono ?_; rintro en w3 ⟨v, rfl, ha, hbz⟩; have HA := Lib.hid ha; have HB3 := Lib.hid hbz; clear hbz ha)
        | (go_at_call 88; refine (HRR.out _ _ HA.out).mono ?_; rintro en w4 ⟨rfl, hbz⟩; have q := heapB hbz (heapB HB3.out (heapB HB2.out HK1.out)); have d0 := cell_of_heap q 0; have d1 := cell_of_heap q 1; have f0 := free_of_heap q 0; have f1 := free_of_heap q 1; simp at d0 d1; have HB4 := Lib.hid hbz; clear hbz q))
      obtain ⟨r0, r1, hbb⟩ := FIN.out w4 a b (belowT (belowT HB2.out HB3.out) HB4.out)
      refine bodyPost_ret (v := .tuple #[.agg #[.int .i64 a, .int .i64 b], .int .i64 c]) (by simp [results, Tryz.results48, go_sem, r0, r1]) rfl ?_
      exact ⟨rfl, hbb⟩
  · have ed : decide (RV m.natAbs e) = false := decide_eq_false h
    rw [ed] at HV
    have hr : rootR m e = .tuple #[.agg #[.int .i64 0, .int .i64 0], .int .i64 1] := by unfold rootR; rw [if_pos h]
    rw [hr]
    clear ed h hr
    go_enter Tryz.func48, Tryz.ntmps48
    go_wp2_with (go_at_call 33; refine (HV.out _).mono ?_; rintro en w2 ⟨rfl, hbz⟩; have q := heapB hbz HK1.out; have d0 := cell_of_heap q 0; have d1 := cell_of_heap q 1; have f0 := free_of_heap q 0; have f1 := free_of_heap q 1; have c00 := keep_cell hbz c00; have c01 := keep_cell hbz c01; simp at d0 d1; have HB2 := Lib.hid hbz; clear hbz q)
    obtain ⟨r0, r1, hbb⟩ := FIN.out w2 0 0 HB2.out
    refine bodyPost_ret (v := .tuple #[.agg #[.int .i64 0, .int .i64 0], .int .i64 1]) (by simp [results, Tryz.results48, go_sem, r0, r1]) rfl ?_
    exact ⟨rfl, hbb⟩
end Go.Proofs.YtekbfommnmikbaaGreatDoor
