/- Texts of this claim, merged: ProdL, RFrameL. -/
import Derived.Test.YtekbfommnmikbaaGreatDoorQ10
import Derived.Deep.SlicePairs
import Derived.Carry
import Derived.ChangeOld
/- The law RealProducts: its walk. -/
namespace Go.Proofs.YtekbfommnmikbaaGreatDoor
set_option linter.unusedVariables false
set_option linter.unusedSimpArgs false
open Go.RowKit Go.Shelf Go.Proofs Go.Sort
attribute [local go_sem ↓] Go.wp_at_zero Go.wp_at_succ

/-- The quotient that the reference rounds. -/
def dvK (ym : Int) : Nat := 14 + (dg 10 ym.natAbs).length
def dvZ (xm ym : Int) : Int := 10 * (xm * 10 ^ dvK ym).tdiv ym + addS ((xm * 10 ^ dvK ym).tdiv ym) (decide ((xm * 10 ^ dvK ym).tmod ym ≠ 0))
def dvE (xe ym ye : Int) : Int := xe - (dvK ym : Nat) - ye - 1
/-- The root that the reference rounds. -/
noncomputable def rtZ (xm xe : Int) : Int := 10 * (root (xm.natAbs * 10 ^ rtK xe) : Int) + (if root (xm.natAbs * 10 ^ rtK xe) * root (xm.natAbs * 10 ^ rtK xe) = xm.natAbs * 10 ^ rtK xe then 0 else 1)
def rtE (xe : Int) : Int := (xe - rtK xe).tdiv 2 - 1
theorem dc_mk {w : World} {A : Option Addr} {n c : Nat} {b : Bool} {z e : Int} (h : Ri w (.agg #[.slice A n c, .bool b]) z) : Dc w (.agg #[.slice A n c, .bool b, .int .i64 e]) z e := ⟨A, n, c, b, rfl, h⟩
theorem gen_agr (X : Value) (o : Option (Int × Int)) (bad : Int) (h1 : bad = 0 → X = resS o) (h2 : bad ≠ 0 → X = .tuple #[.agg #[.int .i64 0, .int .i64 0], .int .i64 bad]) : ∃ z1 z2 er a b k, X = .tuple #[.agg #[.int .i64 z1, .int .i64 z2], .int .i64 er] ∧ (bad = 0 → rdV o = .agg #[.int .i64 a, .int .i64 b, .bool k]) ∧ (bad ≠ 0 → a = 0 ∧ b = 0 ∧ k = false) ∧ Agr z1 z2 er bad a b k := by
  by_cases h : bad = 0
  · have e := h1 h
    subst h
    rcases o with _ | ⟨a, b⟩
    · exact ⟨_, _, _, _, _, _, e, fun _ => rfl, fun x => absurd rfl x, .inr (.inl ⟨rfl, rfl, rfl, rfl, rfl⟩)⟩
    · exact ⟨_, _, _, _, _, _, e, fun _ => rfl, fun x => absurd rfl x, .inr (.inr ⟨rfl, rfl, rfl, rfl, rfl⟩)⟩
  · exact ⟨0, 0, bad, 0, 0, false, h2 h, fun x => absurd x h, fun _ => ⟨rfl, rfl, rfl⟩, .inl ⟨h, rfl, rfl, rfl⟩⟩
theorem argV_01 (p q : Prop) [Decidable p] [Decidable q] : argV p q = 0 ∨ argV p q = 1 := by
  unfold argV; split
  · exact .inl rfl
  · exact .inr rfl
theorem argV_ok {p q : Prop} [Decidable p] [Decidable q] (h : argV p q = 0) : p ∧ q := by
  unfold argV at h; split at h
  · assumption
  · cases h
theorem argV_no {p q : Prop} [Decidable p] [Decidable q] (h : argV p q ≠ 0) : ¬ (p ∧ q) ∧ argV p q = 1 := by
  unfold argV at h ⊢; split at h
  · exact absurd rfl h
  · rename_i hn; exact ⟨hn, by rw [if_neg hn]⟩
/-- Who stands last: 5 where the test holds and nothing was wrong. -/
def noneV (c : Prop) [Decidable c] (bad : Int) : Int := if bad = 0 ∧ c then 5 else bad
theorem noneV_ok {c : Prop} [Decidable c] {bad : Int} (h : noneV c bad = 0) : bad = 0 ∧ ¬ c := by
  unfold noneV at h; split at h
  · cases h
  · rename_i hn; exact ⟨h, fun x => hn ⟨h, x⟩⟩
theorem mul_agr (xm xe ym ye : Int) : ∃ z1 z2 er a b k, mulX xm xe ym ye = .tuple #[.agg #[.int .i64 z1, .int .i64 z2], .int .i64 er] ∧ (argV (RV xm.natAbs xe) (RV ym.natAbs ye) = 0 → rdV (rndS (xm * ym) (xe + ye)) = .agg #[.int .i64 a, .int .i64 b, .bool k]) ∧ (argV (RV xm.natAbs xe) (RV ym.natAbs ye) ≠ 0 → a = 0 ∧ b = 0 ∧ k = false) ∧ Agr z1 z2 er (argV (RV xm.natAbs xe) (RV ym.natAbs ye)) a b k := by
  refine gen_agr _ _ _ (fun h => ?_) (fun h => ?_)
  · obtain ⟨hx, hy⟩ := argV_ok h
    rw [mul_form hx hy]
    have hle : (-222 : Int) ≤ xe + ye := by unfold RV at hx hy; omega
    have h3 := rndS_scale (xm * ym) hle
    rw [show xe + ye - -222 = xe + ye + 222 by omega] at h3
    rw [h3]
  · obtain ⟨hn, h1⟩ := argV_no h
    rw [h1]; unfold mulX doneR; rw [if_neg hn]
theorem div_agr (xm xe ym ye : Int) : ∃ z1 z2 er a b k, divX xm xe ym ye = .tuple #[.agg #[.int .i64 z1, .int .i64 z2], .int .i64 er] ∧ (noneV (ym = 0) (argV (RV xm.natAbs xe) (RV ym.natAbs ye)) = 0 → rdV (rndS (dvZ xm ym) (dvE xe ym ye)) = .agg #[.int .i64 a, .int .i64 b, .bool k]) ∧ (noneV (ym = 0) (argV (RV xm.natAbs xe) (RV ym.natAbs ye)) ≠ 0 → a = 0 ∧ b = 0 ∧ k = false) ∧ Agr z1 z2 er (noneV (ym = 0) (argV (RV xm.natAbs xe) (RV ym.natAbs ye))) a b k := by
  refine gen_agr _ _ _ (fun h => ?_) (fun h => ?_)
  · obtain ⟨h1, h2⟩ := noneV_ok h
    obtain ⟨hx, hy⟩ := argV_ok h1
    exact div_form hx hy h2
  · by_cases h0 : argV (RV xm.natAbs xe) (RV ym.natAbs ye) = 0
    · obtain ⟨hx, hy⟩ := argV_ok h0
      have hy0 : ym = 0 := by
        by_cases hc : ym = 0
        · exact hc
        · exact absurd (by unfold noneV; rw [if_neg (fun x => hc x.2)]; exact h0) h
      have h5 : noneV (ym = 0) (argV (RV xm.natAbs xe) (RV ym.natAbs ye)) = 5 := by unfold noneV; rw [if_pos ⟨h0, hy0⟩]
      rw [h5]; unfold divX doneR; rw [if_pos ⟨hx, hy⟩, if_pos hy0, if_neg (by decide)]
    · obtain ⟨hn, h1⟩ := argV_no h0
      have h5 : noneV (ym = 0) (argV (RV xm.natAbs xe) (RV ym.natAbs ye)) = 1 := by unfold noneV; rw [if_neg (fun x => h0 x.1)]; exact h1
      rw [h5]; unfold divX doneR; rw [if_neg hn]
theorem root_agr (xm xe : Int) : ∃ z1 z2 er a b k, rootR xm xe = .tuple #[.agg #[.int .i64 z1, .int .i64 z2], .int .i64 er] ∧ (noneV (xm < 0) (argV (RV xm.natAbs xe) (RV xm.natAbs xe)) = 0 → rdV (rndS (rtZ xm xe) (rtE xe)) = .agg #[.int .i64 a, .int .i64 b, .bool k]) ∧ (noneV (xm < 0) (argV (RV xm.natAbs xe) (RV xm.natAbs xe)) ≠ 0 → a = 0 ∧ b = 0 ∧ k = false) ∧ Agr z1 z2 er (noneV (xm < 0) (argV (RV xm.natAbs xe) (RV xm.natAbs xe))) a b k := by
  refine gen_agr _ _ _ (fun h => ?_) (fun h => ?_)
  · obtain ⟨h1, h2⟩ := noneV_ok h
    exact root_form (argV_ok h1).1 (by omega)
  · by_cases h0 : argV (RV xm.natAbs xe) (RV xm.natAbs xe) = 0
    · have hx := (argV_ok h0).1
      have hy0 : xm < 0 := by
        by_cases hc : xm < 0
        · exact hc
        · exact absurd (by unfold noneV; rw [if_neg (fun x => hc x.2)]; exact h0) h
      have h5 : noneV (xm < 0) (argV (RV xm.natAbs xe) (RV xm.natAbs xe)) = 5 := by unfold noneV; rw [if_pos ⟨h0, hy0⟩]
      rw [h5]; unfold rootR; rw [if_neg (fun x => x hx), if_pos hy0]
    · obtain ⟨hn, h1⟩ := argV_no h0
      have h5 : noneV (xm < 0) (argV (RV xm.natAbs xe) (RV xm.natAbs xe)) = 1 := by unfold noneV; rw [if_neg (fun x => h0 x.1)]; exact h1
      rw [h5]; unfold rootR; rw [if_pos (fun x => hn ⟨x, x⟩)]
theorem rv_len {m e : Int} (h : RV m.natAbs e) : (dg 10 m.natAbs).length ≤ 12 := by
  rcases RV_nd h with h1 | h1
  · exact Nat.le_trans (Nat.le_of_eq h1) (by decide)
  · exact Nat.le_of_eq h1
theorem rv_rng {m e : Int} (h : RV m.natAbs e) : -1000000000000 < m ∧ m < 1000000000000 ∧ -111 ≤ e ∧ e ≤ 88 := by unfold RV at h; omega
theorem mul_len {x y a b : Int} (hx : RV x.natAbs a) (hy : RV y.natAbs b) : (dg 10 (x * y).natAbs).length ≤ 24 := by
  rw [Int.natAbs_mul]; exact dg_mul_le (rv_len hx) (rv_len hy)
theorem dvK_eq {y b : Int} (hy : RV y.natAbs b) (h0 : y ≠ 0) : dvK y = 26 := by unfold dvK; rw [nd12 hy h0]
theorem ten_len {q : Int} {c : Bool} {m : Nat} (h : (dg 10 q.natAbs).length ≤ m) : (dg 10 (10 * q + addS q c).natAbs).length ≤ m + 2 := by
  rw [dg_length_le (by decide)] at h ⊢
  rw [addS_abs, Nat.pow_add]
  generalize 10 ^ m = P at *
  have : (if c = true then (1 : Nat) else 0) ≤ 1 := by split <;> omega
  omega
theorem dvZ_len {x y a b : Int} (hx : RV x.natAbs a) (hy : RV y.natAbs b) (h0 : y ≠ 0) : (dg 10 (dvZ x y).natAbs).length ≤ 40 := by
  unfold dvZ
  rw [dvK_eq hy h0]
  refine ten_len (m := 38) ?_
  have h1 : ((x * 10 ^ 26).tdiv y).natAbs ≤ (x * 10 ^ 26).natAbs := Int.natAbs_tdiv_le_natAbs _ _
  exact Nat.le_trans (dg_length_mono (b := 10) (by decide) h1) (dg_shift_le 26 (rv_len hx))
theorem rtK_rng {a : Int} (h0 : -111 ≤ a) (h1 : a ≤ 88) : rtK a ≤ 31 := by
  unfold rtK; split <;> omega
theorem rtZ_len {x a : Int} (hx : RV x.natAbs a) : (dg 10 (rtZ x a).natAbs).length ≤ 45 := by
  obtain ⟨_, _, e0, e1⟩ := rv_rng hx
  unfold rtZ
  have hk := rtK_rng e0 e1
  have h1 := dg_shift_le (z := x) (rtK a) (rv_len hx)
  have e2 : (x * 10 ^ rtK a).natAbs = x.natAbs * 10 ^ rtK a := by rw [Int.natAbs_mul, Int.natAbs_pow]; rfl
  rw [e2] at h1
  generalize x.natAbs * 10 ^ rtK a = P at *
  have hP : (dg 10 P).length ≤ 43 := by omega
  have hrp : root P ≤ P := by
    have := root_le P
    rcases Nat.eq_zero_or_pos (root P) with h | h
    · omega
    · exact Nat.le_trans (Nat.le_mul_of_pos_left _ h) this
  rw [dg_length_le (by decide)] at hP ⊢
  rw [Nat.pow_add 10 43 2]
  generalize 10 ^ 43 = Q at *
  have : (10 * (root P : Int) + (if root P * root P = P then 0 else 1)).natAbs ≤ 10 * root P + 1 := by split <;> omega
  omega

set_option maxRecDepth 100000 in
set_option maxHeartbeats 8000000 in
theorem products1_c (b1 b2 : Nat) (xm xe ym ye a b : Int) (k : Bool) (w : World) (hx : RV xm.natAbs xe) (hy : RV ym.natAbs ye) (hr : rdV (rndS (xm * ym) (xe + ye)) = .agg #[.int .i64 a, .int .i64 b, .bool k]) (c0 : w.cell? ⟨b1, 0, none⟩ = some (.int .i64 xm)) (c1 : w.cell? ⟨b1, 1, none⟩ = some (.int .i64 xe)) (z0 : w.cell? ⟨b2, 0, none⟩ = some (.int .i64 ym)) (z1 : w.cell? ⟨b2, 1, none⟩ = some (.int .i64 ye)) :
    Calls Tryz.prog 49 #[.pointer (some ⟨b1, 0, none⟩), .pointer (some ⟨b2, 0, none⟩)] w fun en w' => en = .returned (.agg #[.int .i64 a, .int .i64 b, .bool k]) ∧ Below w.heap.size w w' := by
  obtain ⟨W, hW, k0⟩ : ∃ W, w.alloc (.cells #[.int .i64 0, .int .i64 0, .bool false] 30) = W ∧ W.heap[w.heap.size]? = some (.cells #[.int .i64 0, .int .i64 0, .bool false] 30 (0, 0)) := ⟨_, rfl, heap_alloc_new _ _⟩
  have hbel : Below w.heap.size w W := by rw [← hW]; exact (Below.refl _ _).alloc (Nat.le_refl _) _
  have c0 := keep_cell hbel c0; have c1 := keep_cell hbel c1; have z0 := keep_cell hbel z0; have z1 := keep_cell hbel z1
  have BOX := box3 k0
  have FIN := fin3 k0 (Nat.le_refl _) hbel
  clear k0 hbel
  obtain ⟨x0, x1, x2, x3⟩ := rv_rng hx
  obtain ⟨y0, y1, y2, y3⟩ := rv_rng hy
  have HOX := Lib.hid (fun w' => sof_c xm xe w' (by omega) (by omega))
  have HOY := Lib.hid (fun w' => sof_c ym ye w' (by omega) (by omega))
  have hlx := rv_len hx; have hly := rv_len hy
  have hlz := mul_len hx hy
  have HTI : Hid (∀ v1 v2 w', Dc w' v1 xm xe → Dc w' v2 ym ye → Calls Tryz.prog 51 #[v1, v2] w' fun en w2 => ∃ v, en = .returned v ∧ Dc w2 v (xm * ym) (xe + ye) ∧ Below w'.heap.size w' w2) := fun v1 v2 w' h1 h2 => stimes_c v1 v2 xm xe ym ye w' h1 h2 (by omega) (by omega) (by omega) (by omega) (by omega) (by omega)
  have HRD : Hid (∀ v w', Dc w' v (xm * ym) (xe + ye) → Calls Tryz.prog 50 #[v] w' fun en w2 => en = .returned (.agg #[.int .i64 a, .int .i64 b, .bool k]) ∧ Below w'.heap.size w' w2) := fun v w' h => by
    have := sround_c v (xm * ym) (xe + ye) w' h (by omega) (by omega) (by omega)
    rw [hr] at this; exact this
  clear hlz hlx hly hr hx hy x0 x1 x2 x3 y0 y1 y2 y3
  go_enter Tryz.func49, Tryz.ntmps49
  go_upto_region 1 with fail
  go_cut [8] from 3 to 8 (fun _ wx => wx.cell? ⟨w.heap.size, 0, none⟩ = some (.int .i64 a) ∧ wx.cell? ⟨w.heap.size, 1, none⟩ = some (.int .i64 b) ∧ wx.cell? ⟨w.heap.size, 2, none⟩ = some (.bool k) ∧ Below w.heap.size w wx)
  case first =>
    have HSTL : StableL [(fun _ v => v = .agg #[.int .i64 xm, .int .i64 xe]), (fun w v => Dc w v (xm) (xe)), (fun _ v => v = .agg #[.int .i64 ym, .int .i64 ye]), (fun w v => Dc w v (ym) (ye)), (fun w v => Dc w v (xm * ym) (xe + ye)), (fun _ v => v = .agg #[.int .i64 a, .int .i64 b, .bool k]), (fun _ _ => True)] := ⟨(fun _ _ _ _ h => h), (fun _ _ _ hb h => Dc.below h hb), (fun _ _ _ _ h => h), (fun _ _ _ hb h => Dc.below h hb), (fun _ _ _ hb h => Dc.below h hb), (fun _ _ _ _ h => h), (fun _ _ _ _ h => h), trivial⟩
    refine wp_region_p [3, 4, 5, 6, 7, 8] [3, 4, 5, 6, 7, 8, 1000] [(fun _ v => v = .agg #[.int .i64 xm, .int .i64 xe]), (fun w v => Dc w v (xm) (xe)), (fun _ v => v = .agg #[.int .i64 ym, .int .i64 ye]), (fun w v => Dc w v (ym) (ye)), (fun w v => Dc w v (xm * ym) (xe + ye)), (fun _ v => v = .agg #[.int .i64 a, .int .i64 b, .bool k]), (fun _ _ => True)] 6 (fun _ wx => wx.cell? ⟨w.heap.size, 0, none⟩ = some (.int .i64 a) ∧ wx.cell? ⟨w.heap.size, 1, none⟩ = some (.int .i64 b) ∧ wx.cell? ⟨w.heap.size, 2, none⟩ = some (.bool k) ∧ Below w.heap.size w wx) 7 rfl (by kernel_rfl) (by kernel_rfl) ?_ ⟨?_, ?_, ?_, ?_, ?_, ?_, ?_, trivial⟩
    · intro l us wx hl hJ
      have HF := Lib.hid (hJ.ended hl (by decide))
      clear hl hJ
      simp only [At, List.foldl_cons, List.foldl_nil, List.setIfInBounds_toArray, List.set_cons_zero, List.set_cons_succ]
      go_wp2_with fail
      go_meet
      exact HF.out
    · refine opAt rfl ?_
      intro l us wx hJ hp hl K hK
      have HJ := Lib.hid hJ; have HP := Lib.hid hp; have HLI := Lib.hid hl; have HF := Lib.hid (hJ.live hl (by decide)); have HBX := Lib.hid (hJ.below HF.out); have HK := hK
      clear hJ hp hl hK
      simp only [At, List.foldl_cons, List.foldl_nil, List.setIfInBounds_toArray, List.set_cons_zero, List.set_cons_succ] at HK
      have HK := Lib.hid HK
      have c0 := keep_cell HBX.out c0
      have c1 := keep_cell HBX.out c1
      simp only [At, List.foldl_cons, List.foldl_nil, List.setIfInBounds_toArray, List.set_cons_zero, List.set_cons_succ]
      refine ⟨?_⟩
      go_simp
      exact HK.out (upd us 3 (.agg #[.int .i64 xm, .int .i64 xe])) wx (by exact HJ.out.go HSTL (by kernel_rfl) 0 HF.out (by decide) (by decide) HP.out (Below.refl _ _) (.agg #[.int .i64 xm, .int .i64 xe]) (rfl))
    · refine opAt rfl ?_
      intro l us wx hJ hp hl K hK
      have HJ := Lib.hid hJ; have HP := Lib.hid hp; have HLI := Lib.hid hl; have HF := Lib.hid (hJ.live hl (by decide)); have HBX := Lib.hid (hJ.below HF.out); have HK := hK
      clear hJ hp hl hK
      simp only [At, List.foldl_cons, List.foldl_nil, List.setIfInBounds_toArray, List.set_cons_zero, List.set_cons_succ] at HK
      have HK := Lib.hid HK
      have h3 : us 3 = .agg #[.int .i64 xm, .int .i64 xe] := HJ.out.val HF.out 0 (by decide) (HP.out 0 (by kernel_rfl))
      simp only [At, List.foldl_cons, List.foldl_nil, List.setIfInBounds_toArray, List.set_cons_zero, List.set_cons_succ]
      refine ⟨?_⟩
      go_simp
      go_wp2_with ((go_at_call 45; (with_reducible refine (HOX.out _).mono ?_); rintro en w9 ⟨v9, rfl, hv9, hbz⟩; have HV := Lib.hid hv9; clear hv9; have HC := Lib.hid hbz; clear hbz))
      exact HK.out (upd (upd us 3 (.agg #[.int .i64 xm, .int .i64 xe])) 4 (v9)) w9 (by rw [upd_self h3]; exact HJ.out.go HSTL (by kernel_rfl) 1 HF.out (by decide) (by decide) HP.out HC.out (v9) (HV.out))
    · refine opAt rfl ?_
      intro l us wx hJ hp hl K hK
      have HJ := Lib.hid hJ; have HP := Lib.hid hp; have HLI := Lib.hid hl; have HF := Lib.hid (hJ.live hl (by decide)); have HBX := Lib.hid (hJ.below HF.out); have HK := hK
      clear hJ hp hl hK
      simp only [At, List.foldl_cons, List.foldl_nil, List.setIfInBounds_toArray, List.set_cons_zero, List.set_cons_succ] at HK
      have HK := Lib.hid HK
      have z0 := keep_cell HBX.out z0
      have z1 := keep_cell HBX.out z1
      simp only [At, List.foldl_cons, List.foldl_nil, List.setIfInBounds_toArray, List.set_cons_zero, List.set_cons_succ]
      refine ⟨?_⟩
      go_simp
      exact HK.out (upd us 5 (.agg #[.int .i64 ym, .int .i64 ye])) wx (by exact HJ.out.go HSTL (by kernel_rfl) 2 HF.out (by decide) (by decide) HP.out (Below.refl _ _) (.agg #[.int .i64 ym, .int .i64 ye]) (rfl))
    · refine opAt rfl ?_
      intro l us wx hJ hp hl K hK
      have HJ := Lib.hid hJ; have HP := Lib.hid hp; have HLI := Lib.hid hl; have HF := Lib.hid (hJ.live hl (by decide)); have HBX := Lib.hid (hJ.below HF.out); have HK := hK
      clear hJ hp hl hK
      simp only [At, List.foldl_cons, List.foldl_nil, List.setIfInBounds_toArray, List.set_cons_zero, List.set_cons_succ] at HK
      have HK := Lib.hid HK
      have h5 : us 5 = .agg #[.int .i64 ym, .int .i64 ye] := HJ.out.val HF.out 2 (by decide) (HP.out 2 (by kernel_rfl))
      simp only [At, List.foldl_cons, List.foldl_nil, List.setIfInBounds_toArray, List.set_cons_zero, List.set_cons_succ]
      refine ⟨?_⟩
      go_simp
      go_wp2_with ((go_at_call 45; (with_reducible refine (HOY.out _).mono ?_); rintro en w9 ⟨v9, rfl, hv9, hbz⟩; have HV := Lib.hid hv9; clear hv9; have HC := Lib.hid hbz; clear hbz))
      exact HK.out (upd (upd us 5 (.agg #[.int .i64 ym, .int .i64 ye])) 6 (v9)) w9 (by rw [upd_self h5]; exact HJ.out.go HSTL (by kernel_rfl) 3 HF.out (by decide) (by decide) HP.out HC.out (v9) (HV.out))
    · refine opAt rfl ?_
      intro l us wx hJ hp hl K hK
      have HJ := Lib.hid hJ; have HP := Lib.hid hp; have HLI := Lib.hid hl; have HF := Lib.hid (hJ.live hl (by decide)); have HBX := Lib.hid (hJ.below HF.out); have HK := hK
      clear hJ hp hl hK
      simp only [At, List.foldl_cons, List.foldl_nil, List.setIfInBounds_toArray, List.set_cons_zero, List.set_cons_succ] at HK
      have HK := Lib.hid HK
      have h4 : Dc wx (us 4) (xm) (xe) := HJ.out.val HF.out 1 (by decide) (HP.out 1 (by kernel_rfl))
      obtain ⟨A4, n4, q4, b4, e4, hr4⟩ := h4
      have h6 : Dc wx (us 6) (ym) (ye) := HJ.out.val HF.out 3 (by decide) (HP.out 3 (by kernel_rfl))
      obtain ⟨A6, n6, q6, b6, e6, hr6⟩ := h6
      simp only [At, List.foldl_cons, List.foldl_nil, List.setIfInBounds_toArray, List.set_cons_zero, List.set_cons_succ]
      refine ⟨?_⟩
      go_simp
      go_wp2_with ((go_at_call 51; (with_reducible refine (HTI.out _ _ _ (dc_mk hr4) (dc_mk hr6)).mono ?_); rintro en w9 ⟨v9, rfl, hv9, hbz⟩; have HV := Lib.hid hv9; clear hv9; have HC := Lib.hid hbz; clear hbz))
      exact HK.out (upd (upd (upd us 4 (.agg #[.slice A4 n4 q4, .bool b4, .int .i64 (xe)])) 6 (.agg #[.slice A6 n6 q6, .bool b6, .int .i64 (ye)])) 7 (v9)) w9 (by rw [upd_self e4, upd_self e6]; exact HJ.out.go HSTL (by kernel_rfl) 4 HF.out (by decide) (by decide) HP.out HC.out (v9) (HV.out))
    · refine opAt rfl ?_
      intro l us wx hJ hp hl K hK
      have HJ := Lib.hid hJ; have HP := Lib.hid hp; have HLI := Lib.hid hl; have HF := Lib.hid (hJ.live hl (by decide)); have HBX := Lib.hid (hJ.below HF.out); have HK := hK
      clear hJ hp hl hK
      simp only [At, List.foldl_cons, List.foldl_nil, List.setIfInBounds_toArray, List.set_cons_zero, List.set_cons_succ] at HK
      have HK := Lib.hid HK
      have h7 : Dc wx (us 7) (xm * ym) (xe + ye) := HJ.out.val HF.out 4 (by decide) (HP.out 4 (by kernel_rfl))
      obtain ⟨A7, n7, q7, b7, e7, hr7⟩ := h7
      simp only [At, List.foldl_cons, List.foldl_nil, List.setIfInBounds_toArray, List.set_cons_zero, List.set_cons_succ]
      refine ⟨?_⟩
      go_simp
      go_wp2_with ((go_at_call 50; (with_reducible refine (HRD.out _ _ (dc_mk hr7)).mono ?_); rintro en w9 ⟨rfl, hbz⟩; have HC := Lib.hid hbz; clear hbz))
      exact HK.out (upd (upd us 7 (.agg #[.slice A7 n7 q7, .bool b7, .int .i64 (xe + ye)])) 8 (.agg #[.int .i64 a, .int .i64 b, .bool k])) w9 (by rw [upd_self e7]; exact HJ.out.go HSTL (by kernel_rfl) 5 HF.out (by decide) (by decide) HP.out HC.out (.agg #[.int .i64 a, .int .i64 b, .bool k]) (rfl))
    · refine opAt rfl ?_
      intro l us wx hJ hp hl K hK
      have HJ := Lib.hid hJ; have HP := Lib.hid hp; have HLI := Lib.hid hl; have HF := Lib.hid (hJ.live hl (by decide)); have HBX := Lib.hid (hJ.below HF.out); have HK := hK
      clear hJ hp hl hK
      simp only [At, List.foldl_cons, List.foldl_nil, List.setIfInBounds_toArray, List.set_cons_zero, List.set_cons_succ] at HK
      have HK := Lib.hid HK
      have h8 : us 8 = .agg #[.int .i64 a, .int .i64 b, .bool k] := HJ.out.val HF.out 5 (by decide) (HP.out 5 (by kernel_rfl))
      obtain ⟨d0, d1, d2, f0, f1, f2⟩ := BOX.out _ HBX.out
      simp only [At, List.foldl_cons, List.foldl_nil, List.setIfInBounds_toArray, List.set_cons_zero, List.set_cons_succ]
      refine ⟨?_⟩
      go_simp
      exact HK.out (upd us 8 (.agg #[.int .i64 a, .int .i64 b, .bool k])) _ (by rw [upd_self h8]; exact HJ.out.store (by kernel_rfl) HLI.out HP.out (FIN.out _ _ _ _ HBX.out))
  case rest =>
    obtain ⟨r0, r1, r2, hbb⟩ := hcut
    go_wp2_with fail
    refine bodyPost_ret (v := .agg #[.int .i64 a, .int .i64 b, .bool k]) (by simp [results, Tryz.results49, go_sem, r0, r1, r2]) rfl ?_
    exact ⟨rfl, hbb⟩

set_option maxRecDepth 100000 in
set_option maxHeartbeats 8000000 in
theorem products2_c (b1 b2 : Nat) (xm xe ym ye a b : Int) (k : Bool) (w : World) (hx : RV xm.natAbs xe) (hy : RV ym.natAbs ye) (h0 : ym ≠ 0) (hr : rdV (rndS (dvZ xm ym) (dvE xe ym ye)) = .agg #[.int .i64 a, .int .i64 b, .bool k]) (c0 : w.cell? ⟨b1, 0, none⟩ = some (.int .i64 xm)) (c1 : w.cell? ⟨b1, 1, none⟩ = some (.int .i64 xe)) (z0 : w.cell? ⟨b2, 0, none⟩ = some (.int .i64 ym)) (z1 : w.cell? ⟨b2, 1, none⟩ = some (.int .i64 ye)) :
    Calls Tryz.prog 52 #[.pointer (some ⟨b1, 0, none⟩), .pointer (some ⟨b2, 0, none⟩)] w fun en w' => en = .returned (.agg #[.int .i64 a, .int .i64 b, .bool k]) ∧ Below w.heap.size w w' := by
  obtain ⟨W, hW, k0⟩ : ∃ W, w.alloc (.cells #[.int .i64 0, .int .i64 0, .bool false] 30) = W ∧ W.heap[w.heap.size]? = some (.cells #[.int .i64 0, .int .i64 0, .bool false] 30 (0, 0)) := ⟨_, rfl, heap_alloc_new _ _⟩
  have hbel : Below w.heap.size w W := by rw [← hW]; exact (Below.refl _ _).alloc (Nat.le_refl _) _
  have c0 := keep_cell hbel c0; have c1 := keep_cell hbel c1; have z0 := keep_cell hbel z0; have z1 := keep_cell hbel z1
  have BOX := box3 k0
  have FIN := fin3 k0 (Nat.le_refl _) hbel
  clear k0 hbel
  obtain ⟨x0, x1, x2, x3⟩ := rv_rng hx
  obtain ⟨y0, y1, y2, y3⟩ := rv_rng hy
  have HOX := Lib.hid (fun w' => sof_c xm xe w' (by omega) (by omega))
  have HOY := Lib.hid (fun w' => sof_c ym ye w' (by omega) (by omega))
  have hlx := rv_len hx; have hly := rv_len hy
  have hlz := dvZ_len hx hy h0
  have HTI : Hid (∀ v1 v2 w', Dc w' v1 xm xe → Dc w' v2 ym ye → Calls Tryz.prog 53 #[v1, v2] w' fun en w2 => ∃ v, en = .returned v ∧ Dc w2 v (dvZ xm ym) (dvE xe ym ye) ∧ Below w'.heap.size w' w2) := fun v1 v2 w' h1 h2 => sover_c v1 v2 xm xe ym ye w' h1 h2 h0 (by omega) (by omega) (by omega) (by omega) (by omega) (by omega)
  have HRD : Hid (∀ v w', Dc w' v (dvZ xm ym) (dvE xe ym ye) → Calls Tryz.prog 50 #[v] w' fun en w2 => en = .returned (.agg #[.int .i64 a, .int .i64 b, .bool k]) ∧ Below w'.heap.size w' w2) := fun v w' h => by
    have := sround_c v (dvZ xm ym) (dvE xe ym ye) w' h (by omega) (by unfold dvE; rw [dvK_eq hy h0]; omega) (by unfold dvE; rw [dvK_eq hy h0]; omega)
    rw [hr] at this; exact this
  clear hlz hlx hly hr hx hy x0 x1 x2 x3 y0 y1 y2 y3
  go_enter Tryz.func52, Tryz.ntmps52
  go_upto_region 1 with fail
  go_cut [8] from 3 to 8 (fun _ wx => wx.cell? ⟨w.heap.size, 0, none⟩ = some (.int .i64 a) ∧ wx.cell? ⟨w.heap.size, 1, none⟩ = some (.int .i64 b) ∧ wx.cell? ⟨w.heap.size, 2, none⟩ = some (.bool k) ∧ Below w.heap.size w wx)
  case first =>
    have HSTL : StableL [(fun _ v => v = .agg #[.int .i64 xm, .int .i64 xe]), (fun w v => Dc w v (xm) (xe)), (fun _ v => v = .agg #[.int .i64 ym, .int .i64 ye]), (fun w v => Dc w v (ym) (ye)), (fun w v => Dc w v (dvZ xm ym) (dvE xe ym ye)), (fun _ v => v = .agg #[.int .i64 a, .int .i64 b, .bool k]), (fun _ _ => True)] := ⟨(fun _ _ _ _ h => h), (fun _ _ _ hb h => Dc.below h hb), (fun _ _ _ _ h => h), (fun _ _ _ hb h => Dc.below h hb), (fun _ _ _ hb h => Dc.below h hb), (fun _ _ _ _ h => h), (fun _ _ _ _ h => h), trivial⟩
    refine wp_region_p [3, 4, 5, 6, 7, 8] [3, 4, 5, 6, 7, 8, 1000] [(fun _ v => v = .agg #[.int .i64 xm, .int .i64 xe]), (fun w v => Dc w v (xm) (xe)), (fun _ v => v = .agg #[.int .i64 ym, .int .i64 ye]), (fun w v => Dc w v (ym) (ye)), (fun w v => Dc w v (dvZ xm ym) (dvE xe ym ye)), (fun _ v => v = .agg #[.int .i64 a, .int .i64 b, .bool k]), (fun _ _ => True)] 6 (fun _ wx => wx.cell? ⟨w.heap.size, 0, none⟩ = some (.int .i64 a) ∧ wx.cell? ⟨w.heap.size, 1, none⟩ = some (.int .i64 b) ∧ wx.cell? ⟨w.heap.size, 2, none⟩ = some (.bool k) ∧ Below w.heap.size w wx) 7 rfl (by kernel_rfl) (by kernel_rfl) ?_ ⟨?_, ?_, ?_, ?_, ?_, ?_, ?_, trivial⟩
    · intro l us wx hl hJ
      have HF := Lib.hid (hJ.ended hl (by decide))
      clear hl hJ
      simp only [At, List.foldl_cons, List.foldl_nil, List.setIfInBounds_toArray, List.set_cons_zero, List.set_cons_succ]
      go_wp2_with fail
      go_meet
      exact HF.out
    · refine opAt rfl ?_
      intro l us wx hJ hp hl K hK
      have HJ := Lib.hid hJ; have HP := Lib.hid hp; have HLI := Lib.hid hl; have HF := Lib.hid (hJ.live hl (by decide)); have HBX := Lib.hid (hJ.below HF.out); have HK := hK
      clear hJ hp hl hK
      simp only [At, List.foldl_cons, List.foldl_nil, List.setIfInBounds_toArray, List.set_cons_zero, List.set_cons_succ] at HK
      have HK := Lib.hid HK
      have c0 := keep_cell HBX.out c0
      have c1 := keep_cell HBX.out c1
      simp only [At, List.foldl_cons, List.foldl_nil, List.setIfInBounds_toArray, List.set_cons_zero, List.set_cons_succ]
      refine ⟨?_⟩
      go_simp
      exact HK.out (upd us 3 (.agg #[.int .i64 xm, .int .i64 xe])) wx (by exact HJ.out.go HSTL (by kernel_rfl) 0 HF.out (by decide) (by decide) HP.out (Below.refl _ _) (.agg #[.int .i64 xm, .int .i64 xe]) (rfl))
    · refine opAt rfl ?_
      intro l us wx hJ hp hl K hK
      have HJ := Lib.hid hJ; have HP := Lib.hid hp; have HLI := Lib.hid hl; have HF := Lib.hid (hJ.live hl (by decide)); have HBX := Lib.hid (hJ.below HF.out); have HK := hK
      clear hJ hp hl hK
      simp only [At, List.foldl_cons, List.foldl_nil, List.setIfInBounds_toArray, List.set_cons_zero, List.set_cons_succ] at HK
      have HK := Lib.hid HK
      have h3 : us 3 = .agg #[.int .i64 xm, .int .i64 xe] := HJ.out.val HF.out 0 (by decide) (HP.out 0 (by kernel_rfl))
      simp only [At, List.foldl_cons, List.foldl_nil, List.setIfInBounds_toArray, List.set_cons_zero, List.set_cons_succ]
      refine ⟨?_⟩
      go_simp
      go_wp2_with ((go_at_call 45; (with_reducible refine (HOX.out _).mono ?_); rintro en w9 ⟨v9, rfl, hv9, hbz⟩; have HV := Lib.hid hv9; clear hv9; have HC := Lib.hid hbz; clear hbz))
      exact HK.out (upd (upd us 3 (.agg #[.int .i64 xm, .int .i64 xe])) 4 (v9)) w9 (by rw [upd_self h3]; exact HJ.out.go HSTL (by kernel_rfl) 1 HF.out (by decide) (by decide) HP.out HC.out (v9) (HV.out))
    · refine opAt rfl ?_
      intro l us wx hJ hp hl K hK
      have HJ := Lib.hid hJ; have HP := Lib.hid hp; have HLI := Lib.hid hl; have HF := Lib.hid (hJ.live hl (by decide)); have HBX := Lib.hid (hJ.below HF.out); have HK := hK
      clear hJ hp hl hK
      simp only [At, List.foldl_cons, List.foldl_nil, List.setIfInBounds_toArray, List.set_cons_zero, List.set_cons_succ] at HK
      have HK := Lib.hid HK
      have z0 := keep_cell HBX.out z0
      have z1 := keep_cell HBX.out z1
      simp only [At, List.foldl_cons, List.foldl_nil, List.setIfInBounds_toArray, List.set_cons_zero, List.set_cons_succ]
      refine ⟨?_⟩
      go_simp
      exact HK.out (upd us 5 (.agg #[.int .i64 ym, .int .i64 ye])) wx (by exact HJ.out.go HSTL (by kernel_rfl) 2 HF.out (by decide) (by decide) HP.out (Below.refl _ _) (.agg #[.int .i64 ym, .int .i64 ye]) (rfl))
    · refine opAt rfl ?_
      intro l us wx hJ hp hl K hK
      have HJ := Lib.hid hJ; have HP := Lib.hid hp; have HLI := Lib.hid hl; have HF := Lib.hid (hJ.live hl (by decide)); have HBX := Lib.hid (hJ.below HF.out); have HK := hK
      clear hJ hp hl hK
      simp only [At, List.foldl_cons, List.foldl_nil, List.setIfInBounds_toArray, List.set_cons_zero, List.set_cons_succ] at HK
      have HK := Lib.hid HK
      have h5 : us 5 = .agg #[.int .i64 ym, .int .i64 ye] := HJ.out.val HF.out 2 (by decide) (HP.out 2 (by kernel_rfl))
      simp only [At, List.foldl_cons, List.foldl_nil, List.setIfInBounds_toArray, List.set_cons_zero, List.set_cons_succ]
      refine ⟨?_⟩
      go_simp
      go_wp2_with ((go_at_call 45; (with_reducible refine (HOY.out _).mono ?_); rintro en w9 ⟨v9, rfl, hv9, hbz⟩; have HV := Lib.hid hv9; clear hv9; have HC := Lib.hid hbz; clear hbz))
      exact HK.out (upd (upd us 5 (.agg #[.int .i64 ym, .int .i64 ye])) 6 (v9)) w9 (by rw [upd_self h5]; exact HJ.out.go HSTL (by kernel_rfl) 3 HF.out (by decide) (by decide) HP.out HC.out (v9) (HV.out))
    · refine opAt rfl ?_
      intro l us wx hJ hp hl K hK
      have HJ := Lib.hid hJ; have HP := Lib.hid hp; have HLI := Lib.hid hl; have HF := Lib.hid (hJ.live hl (by decide)); have HBX := Lib.hid (hJ.below HF.out); have HK := hK
      clear hJ hp hl hK
      simp only [At, List.foldl_cons, List.foldl_nil, List.setIfInBounds_toArray, List.set_cons_zero, List.set_cons_succ] at HK
      have HK := Lib.hid HK
      have h4 : Dc wx (us 4) (xm) (xe) := HJ.out.val HF.out 1 (by decide) (HP.out 1 (by kernel_rfl))
      obtain ⟨A4, n4, q4, b4, e4, hr4⟩ := h4
      have h6 : Dc wx (us 6) (ym) (ye) := HJ.out.val HF.out 3 (by decide) (HP.out 3 (by kernel_rfl))
      obtain ⟨A6, n6, q6, b6, e6, hr6⟩ := h6
      simp only [At, List.foldl_cons, List.foldl_nil, List.setIfInBounds_toArray, List.set_cons_zero, List.set_cons_succ]
      refine ⟨?_⟩
      go_simp
      go_wp2_with ((go_at_call 53; (with_reducible refine (HTI.out _ _ _ (dc_mk hr4) (dc_mk hr6)).mono ?_); rintro en w9 ⟨v9, rfl, hv9, hbz⟩; have HV := Lib.hid hv9; clear hv9; have HC := Lib.hid hbz; clear hbz))
      exact HK.out (upd (upd (upd us 4 (.agg #[.slice A4 n4 q4, .bool b4, .int .i64 (xe)])) 6 (.agg #[.slice A6 n6 q6, .bool b6, .int .i64 (ye)])) 7 (v9)) w9 (by rw [upd_self e4, upd_self e6]; exact HJ.out.go HSTL (by kernel_rfl) 4 HF.out (by decide) (by decide) HP.out HC.out (v9) (HV.out))
    · refine opAt rfl ?_
      intro l us wx hJ hp hl K hK
      have HJ := Lib.hid hJ; have HP := Lib.hid hp; have HLI := Lib.hid hl; have HF := Lib.hid (hJ.live hl (by decide)); have HBX := Lib.hid (hJ.below HF.out); have HK := hK
      clear hJ hp hl hK
      simp only [At, List.foldl_cons, List.foldl_nil, List.setIfInBounds_toArray, List.set_cons_zero, List.set_cons_succ] at HK
      have HK := Lib.hid HK
      have h7 : Dc wx (us 7) (dvZ xm ym) (dvE xe ym ye) := HJ.out.val HF.out 4 (by decide) (HP.out 4 (by kernel_rfl))
      obtain ⟨A7, n7, q7, b7, e7, hr7⟩ := h7
      simp only [At, List.foldl_cons, List.foldl_nil, List.setIfInBounds_toArray, List.set_cons_zero, List.set_cons_succ]
      refine ⟨?_⟩
      go_simp
      go_wp2_with ((go_at_call 50; (with_reducible refine (HRD.out _ _ (dc_mk hr7)).mono ?_); rintro en w9 ⟨rfl, hbz⟩; have HC := Lib.hid hbz; clear hbz))
      exact HK.out (upd (upd us 7 (.agg #[.slice A7 n7 q7, .bool b7, .int .i64 (dvE xe ym ye)])) 8 (.agg #[.int .i64 a, .int .i64 b, .bool k])) w9 (by rw [upd_self e7]; exact HJ.out.go HSTL (by kernel_rfl) 5 HF.out (by decide) (by decide) HP.out HC.out (.agg #[.int .i64 a, .int .i64 b, .bool k]) (rfl))
    · refine opAt rfl ?_
      intro l us wx hJ hp hl K hK
      have HJ := Lib.hid hJ; have HP := Lib.hid hp; have HLI := Lib.hid hl; have HF := Lib.hid (hJ.live hl (by decide)); have HBX := Lib.hid (hJ.below HF.out); have HK := hK
      clear hJ hp hl hK
      simp only [At, List.foldl_cons, List.foldl_nil, List.setIfInBounds_toArray, List.set_cons_zero, List.set_cons_succ] at HK
      have HK := Lib.hid HK
      have h8 : us 8 = .agg #[.int .i64 a, .int .i64 b, .bool k] := HJ.out.val HF.out 5 (by decide) (HP.out 5 (by kernel_rfl))
      obtain ⟨d0, d1, d2, f0, f1, f2⟩ := BOX.out _ HBX.out
      simp only [At, List.foldl_cons, List.foldl_nil, List.setIfInBounds_toArray, List.set_cons_zero, List.set_cons_succ]
      refine ⟨?_⟩
      go_simp
      exact HK.out (upd us 8 (.agg #[.int .i64 a, .int .i64 b, .bool k])) _ (by rw [upd_self h8]; exact HJ.out.store (by kernel_rfl) HLI.out HP.out (FIN.out _ _ _ _ HBX.out))
  case rest =>
    obtain ⟨r0, r1, r2, hbb⟩ := hcut
    go_wp2_with fail
    refine bodyPost_ret (v := .agg #[.int .i64 a, .int .i64 b, .bool k]) (by simp [results, Tryz.results52, go_sem, r0, r1, r2]) rfl ?_
    exact ⟨rfl, hbb⟩

set_option maxRecDepth 100000 in
set_option maxHeartbeats 8000000 in
theorem products3_c (b1 : Nat) (xm xe a b : Int) (k : Bool) (w : World) (hx : RV xm.natAbs xe) (h0 : 0 ≤ xm) (hr : rdV (rndS (rtZ xm xe) (rtE xe)) = .agg #[.int .i64 a, .int .i64 b, .bool k]) (c0 : w.cell? ⟨b1, 0, none⟩ = some (.int .i64 xm)) (c1 : w.cell? ⟨b1, 1, none⟩ = some (.int .i64 xe)) :
    Calls Tryz.prog 54 #[.pointer (some ⟨b1, 0, none⟩)] w fun en w' => en = .returned (.agg #[.int .i64 a, .int .i64 b, .bool k]) ∧ Below w.heap.size w w' := by
  obtain ⟨W, hW, k0⟩ : ∃ W, w.alloc (.cells #[.int .i64 0, .int .i64 0, .bool false] 30) = W ∧ W.heap[w.heap.size]? = some (.cells #[.int .i64 0, .int .i64 0, .bool false] 30 (0, 0)) := ⟨_, rfl, heap_alloc_new _ _⟩
  have hbel : Below w.heap.size w W := by rw [← hW]; exact (Below.refl _ _).alloc (Nat.le_refl _) _
  have c0 := keep_cell hbel c0; have c1 := keep_cell hbel c1
  have BOX := box3 k0
  have FIN := fin3 k0 (Nat.le_refl _) hbel
  clear k0 hbel
  obtain ⟨x0, x1, x2, x3⟩ := rv_rng hx
  have hlx := rv_len hx
  have hlz := rtZ_len hx
  have hk := rtK_rng x2 x3
  have hxm : (xm.natAbs : Int) = xm := by omega
  have HOX : Hid (∀ w', Calls Tryz.prog 45 #[.agg #[.int .i64 xm, .int .i64 xe]] w' fun en w2 => ∃ v, en = .returned v ∧ Dc w2 v xm xe ∧ Below w'.heap.size w' w2) := fun w' => sof_c xm xe w' (by omega) (by omega)
  have HTI : Hid (∀ v w', Dc w' v xm xe → Calls Tryz.prog 55 #[v] w' fun en w2 => ∃ v, en = .returned v ∧ Dc w2 v (rtZ xm xe) (rtE xe) ∧ Below w'.heap.size w' w2) := fun v w' h1 => sroot_c v xm.natAbs xe w' (by rw [hxm]; exact h1) (by omega) (by omega) (by omega)
  have hE : -1000000000 ≤ rtE xe ∧ rtE xe ≤ 1000000000 := by
    unfold rtE
    have hb : ∀ x : Int, x.natAbs ≤ 1000 → -1000000 ≤ x.tdiv 2 - 1 ∧ x.tdiv 2 - 1 ≤ 1000000 := by
      intro x hx
      have := Int.natAbs_tdiv_le_natAbs x 2
      omega
    have := hb (xe - rtK xe) (by omega)
    omega
  have HRD : Hid (∀ v w', Dc w' v (rtZ xm xe) (rtE xe) → Calls Tryz.prog 50 #[v] w' fun en w2 => en = .returned (.agg #[.int .i64 a, .int .i64 b, .bool k]) ∧ Below w'.heap.size w' w2) := fun v w' h => by
    have := sround_c v (rtZ xm xe) (rtE xe) w' h (by omega) hE.1 hE.2
    rw [hr] at this; exact this
  clear hlz hlx hk hr hx hE hxm x0 x1 x2 x3
  go_enter Tryz.func54, Tryz.ntmps54
  go_wp2_with (first
    | (go_at_call 45; (with_reducible refine (HOX.out _).mono ?_); rintro en w2 ⟨v4, rfl, hv4, hbz⟩; have HV4 := Lib.hid hv4; have HB := Lib.hid hbz; clear hbz hv4)
    | (go_at_call 55; (with_reducible refine (HTI.out _ _ HV4.out).mono ?_); rintro en w3 ⟨v5, rfl, hv5, hbz⟩; have HV5 := Lib.hid hv5; have HB := Lib.hid (belowT HB.out hbz); clear hbz hv5)
    | (go_at_call 50; (with_reducible refine (HRD.out _ _ HV5.out).mono ?_); rintro en w4 ⟨rfl, hbz⟩; have HB := Lib.hid (belowT HB.out hbz); clear hbz; obtain ⟨d0, d1, d2, f0, f1, f2⟩ := BOX.out _ HB.out))
  obtain ⟨r0, r1, r2, hbb⟩ := FIN.out _ (.int .i64 a) (.int .i64 b) (.bool k) HB.out
  refine bodyPost_ret (v := .agg #[.int .i64 a, .int .i64 b, .bool k]) (by simp [results, Tryz.results54, go_sem, r0, r1, r2]) rfl ?_
  exact ⟨rfl, hbb⟩

set_option maxRecDepth 100000 in
set_option maxHeartbeats 8000000 in
theorem products_walk (xm xe ym ye : Int) (w : World) (ht : P10 w) (hx0 : -9223372036854775808 ≤ xm) (hx1 : xm ≤ 9223372036854775807) (hy0 : -9223372036854775808 ≤ ym) (hy1 : ym ≤ 9223372036854775807) :
    Calls Tryz.prog 8 #[.agg #[.int .i64 xm, .int .i64 xe], .agg #[.int .i64 ym, .int .i64 ye]] w fun en w' => en = .returned (.bool true) ∧ Below w.heap.size w w' := by
  obtain ⟨W, hW, q0, q1, hbel, hsz⟩ := bx2h w #[.int .i64 xm, .int .i64 xe] #[.int .i64 ym, .int .i64 ye] 23 23
  have HBEL := Lib.hid hbel
  have HT := Lib.hid (ht.below hbel)
  obtain ⟨c0, c1⟩ := two_cells q0
  obtain ⟨z0, z1⟩ := two_cells q1
  have HSAN : Hid (∀ w' : World, P10 w' → Calls Tryz.prog 25 #[] w' fun e w2 => e = .returned (.bool true) ∧ Below w'.heap.size w' w2) := sanityR_c
  obtain ⟨x1, y1, e1, a1, b1, k1, hst1, hok1, hno1, hag1⟩ := mul_agr xm xe ym ye
  obtain ⟨x2, y2, e2, a2, b2, k2, hst2, hok2, hno2, hag2⟩ := div_agr xm xe ym ye
  obtain ⟨x3, y3, e3, a3, b3, k3, hst3, hok3, hno3, hag3⟩ := root_agr xm xe
  have HM := Lib.hid (fun w' => mulX_c xm xe ym ye w' hx0 hx1 hy0 hy1)
  rw [hst1] at HM
  have HD := Lib.hid (fun w' => divX_c xm xe ym ye w' hx0 hx1 hy0 hy1)
  rw [hst2] at HD
  have HRT := Lib.hid (fun w' => rootR_c xm xe w' hx0 hx1)
  rw [hst3] at HRT
  have HARG := Lib.hid (fun w' => arg_c xm xe ym ye w' hx0 hx1 hy0 hy1)
  have HARX := Lib.hid (fun w' => arg_c xm xe xm xe w' hx0 hx1 hx0 hx1)
  have HAG1 := Lib.hid (fun w' => agrees_c _ _ _ _ _ _ _ w' hag1)
  have HAG2 := Lib.hid (fun w' => agrees_c _ _ _ _ _ _ _ w' hag2)
  have HAG3 := Lib.hid (fun w' => agrees_c _ _ _ _ _ _ _ w' hag3)
  have HNONE1 : Hid (∀ w' : World, w'.cell? ⟨w.heap.size, 0, none⟩ = some (.int .i64 xm) → w'.cell? ⟨w.heap.size, 1, none⟩ = some (.int .i64 xe) → w'.cell? ⟨w.heap.size + 1, 0, none⟩ = some (.int .i64 ym) → w'.cell? ⟨w.heap.size + 1, 1, none⟩ = some (.int .i64 ye) → Calls Tryz.prog 22 #[.int .i64 (argV (RV xm.natAbs xe) (RV ym.natAbs ye)), .func (.func 49) #[] #[.pointer (some ⟨w.heap.size, 0, none⟩), .pointer (some ⟨w.heap.size + 1, 0, none⟩)]] w' fun en w2 => en = .returned (.agg #[.int .i64 a1, .int .i64 b1, .bool k1]) ∧ Below w'.heap.size w' w2) := by
    intro w' e0 e1 e2 e3
    by_cases h : argV (RV xm.natAbs xe) (RV ym.natAbs ye) = 0
    · rw [h]
      have hr := hok1 h
      obtain ⟨h1, h2⟩ := argV_ok h
      exact none_ok _ _ a1 b1 k1 w' (enters_of Tryz.func49 (by kernel_rfl) rfl) fun w2 hb => products1_c _ _ xm xe ym ye a1 b1 k1 w2 h1 h2 hr (keep_cell hb e0) (keep_cell hb e1) (keep_cell hb e2) (keep_cell hb e3)
    · obtain ⟨rfl, rfl, rfl⟩ := hno1 h
      exact none_bad _ _ w' h
  have HNONE2 : Hid (∀ w' : World, w'.cell? ⟨w.heap.size, 0, none⟩ = some (.int .i64 xm) → w'.cell? ⟨w.heap.size, 1, none⟩ = some (.int .i64 xe) → w'.cell? ⟨w.heap.size + 1, 0, none⟩ = some (.int .i64 ym) → w'.cell? ⟨w.heap.size + 1, 1, none⟩ = some (.int .i64 ye) → Calls Tryz.prog 22 #[.int .i64 (noneV (ym = 0) (argV (RV xm.natAbs xe) (RV ym.natAbs ye))), .func (.func 52) #[] #[.pointer (some ⟨w.heap.size, 0, none⟩), .pointer (some ⟨w.heap.size + 1, 0, none⟩)]] w' fun en w2 => en = .returned (.agg #[.int .i64 a2, .int .i64 b2, .bool k2]) ∧ Below w'.heap.size w' w2) := by
    intro w' e0 e1 e2 e3
    by_cases h : noneV (ym = 0) (argV (RV xm.natAbs xe) (RV ym.natAbs ye)) = 0
    · rw [h]
      have hr := hok2 h
      obtain ⟨h3, h4⟩ := noneV_ok h
      obtain ⟨h1, h2⟩ := argV_ok h3
      exact none_ok _ _ a2 b2 k2 w' (enters_of Tryz.func52 (by kernel_rfl) rfl) fun w2 hb => products2_c _ _ xm xe ym ye a2 b2 k2 w2 h1 h2 h4 hr (keep_cell hb e0) (keep_cell hb e1) (keep_cell hb e2) (keep_cell hb e3)
    · obtain ⟨rfl, rfl, rfl⟩ := hno2 h
      exact none_bad _ _ w' h
  have HNONE3 : Hid (∀ w' : World, w'.cell? ⟨w.heap.size, 0, none⟩ = some (.int .i64 xm) → w'.cell? ⟨w.heap.size, 1, none⟩ = some (.int .i64 xe) → Calls Tryz.prog 22 #[.int .i64 (noneV (xm < 0) (argV (RV xm.natAbs xe) (RV xm.natAbs xe))), .func (.func 54) #[] #[.pointer (some ⟨w.heap.size, 0, none⟩)]] w' fun en w2 => en = .returned (.agg #[.int .i64 a3, .int .i64 b3, .bool k3]) ∧ Below w'.heap.size w' w2) := by
    intro w' e0 e1
    by_cases h : noneV (xm < 0) (argV (RV xm.natAbs xe) (RV xm.natAbs xe)) = 0
    · rw [h]
      have hr := hok3 h
      obtain ⟨h3, h4⟩ := noneV_ok h
      obtain ⟨h1, h2⟩ := argV_ok h3
      exact none_ok _ _ a3 b3 k3 w' (enters_of Tryz.func54 (by kernel_rfl) rfl) fun w2 hb => products3_c _ xm xe a3 b3 k3 w2 h1 (by omega) hr (keep_cell hb e0) (keep_cell hb e1)
    · obtain ⟨rfl, rfl, rfl⟩ := hno3 h
      exact none_bad _ _ w' h
  have h01 := argV_01 (RV xm.natAbs xe) (RV ym.natAbs ye)
  have h01x := argV_01 (RV xm.natAbs xe) (RV xm.natAbs xe)
  obtain ⟨bad, hbad⟩ : ∃ bad, argV (RV xm.natAbs xe) (RV ym.natAbs ye) = bad := ⟨_, rfl⟩
  obtain ⟨badx, hbadx⟩ : ∃ bad, argV (RV xm.natAbs xe) (RV xm.natAbs xe) = bad := ⟨_, rfl⟩
  rw [hbad] at HARG HAG1 HNONE1 HAG2 HNONE2 h01
  rw [hbadx] at HARX HAG3 HNONE3 h01x
  obtain ⟨bad2, hbad2⟩ : ∃ b, noneV (ym = 0) bad = b := ⟨_, rfl⟩
  obtain ⟨bad3, hbad3⟩ : ∃ b, noneV (xm < 0) badx = b := ⟨_, rfl⟩
  rw [hbad2] at HAG2 HNONE2
  rw [hbad3] at HAG3 HNONE3
  obtain ⟨t1, ht1⟩ : ∃ t : Bool, (t = true ↔ (bad = 0 ∧ ym = 0)) := ⟨decide (bad = 0 ∧ ym = 0), by simp⟩
  obtain ⟨t2, ht2⟩ : ∃ t : Bool, (t = true ↔ (badx = 0 ∧ xm < 0)) := ⟨decide (badx = 0 ∧ xm < 0), by simp⟩
  have hb1 : bad2 = if t1 = true then 5 else bad := by
    rw [← hbad2]; unfold noneV
    by_cases h : bad = 0 ∧ ym = 0
    · rw [if_pos h, if_pos (ht1.2 h)]
    · rw [if_neg h, if_neg (fun x => h (ht1.1 x))]
  have hb2 : bad3 = if t2 = true then 5 else badx := by
    rw [← hbad3]; unfold noneV
    by_cases h : badx = 0 ∧ xm < 0
    · rw [if_pos h, if_pos (ht2.2 h)]
    · rw [if_neg h, if_neg (fun x => h (ht2.1 x))]
  have HB1 := Lib.hid hb1; have HB2 := Lib.hid hb2; have HT1 := Lib.hid ht1; have HT2 := Lib.hid ht2
  have H01 := Lib.hid h01; have H01X := Lib.hid h01x
  clear q0 q1 hbel hst1 hok1 hno1 hag1 hst2 hok2 hno2 hag2 hst3 hok3 hno3 hag3 hbad hbadx hbad2 hbad3 hb1 hb2 ht1 ht2 h01 h01x hx0 hx1 hy0 hy1 hsz
  go_enter Tryz.func8, Tryz.ntmps8
  go_upto_region 5 with (first
    | (go_at_call 46; (with_reducible refine (HM.out _).mono ?_); rintro en w2 ⟨rfl, hbz⟩; have c0 := keep_cell hbz c0; have c1 := keep_cell hbz c1; have z0 := keep_cell hbz z0; have z1 := keep_cell hbz z1; have Ac0 := fun o => keep_cell ((Below.refl _ _).alloc (Nat.le_refl _) o) c0; have Ac1 := fun o => keep_cell ((Below.refl _ _).alloc (Nat.le_refl _) o) c1; have Az0 := fun o => keep_cell ((Below.refl _ _).alloc (Nat.le_refl _) o) z0; have Az1 := fun o => keep_cell ((Below.refl _ _).alloc (Nat.le_refl _) o) z1; have HB := Lib.hid hbz; clear hbz)
    | (go_at_call 47; (with_reducible refine (HD.out _).mono ?_); rintro en w3 ⟨rfl, hbz⟩; have c0 := keep_cell hbz (keep_cell ((Below.refl _ _).alloc (Nat.le_refl _) _) c0); have c1 := keep_cell hbz (keep_cell ((Below.refl _ _).alloc (Nat.le_refl _) _) c1); have z0 := keep_cell hbz (keep_cell ((Below.refl _ _).alloc (Nat.le_refl _) _) z0); have z1 := keep_cell hbz (keep_cell ((Below.refl _ _).alloc (Nat.le_refl _) _) z1); obtain ⟨q0, q1⟩ := two_cells (heapB hbz (heap_alloc_new _ _)); have Ac0 := fun o => keep_cell ((Below.refl _ _).alloc (Nat.le_refl _) o) c0; have Ac1 := fun o => keep_cell ((Below.refl _ _).alloc (Nat.le_refl _) o) c1; have Az0 := fun o => keep_cell ((Below.refl _ _).alloc (Nat.le_refl _) o) z0; have Az1 := fun o => keep_cell ((Below.refl _ _).alloc (Nat.le_refl _) o) z1; have Aq0 := fun o => keep_cell ((Below.refl _ _).alloc (Nat.le_refl _) o) q0; have Aq1 := fun o => keep_cell ((Below.refl _ _).alloc (Nat.le_refl _) o) q1; have HB := Lib.hid (belowT (belowA HB.out _) hbz); clear hbz)
    | (go_at_call 48; (with_reducible refine (HRT.out _).mono ?_); rintro en w4 ⟨rfl, hbz⟩; have c0 := keep_cell hbz (keep_cell ((Below.refl _ _).alloc (Nat.le_refl _) _) c0); have c1 := keep_cell hbz (keep_cell ((Below.refl _ _).alloc (Nat.le_refl _) _) c1); have z0 := keep_cell hbz (keep_cell ((Below.refl _ _).alloc (Nat.le_refl _) _) z0); have z1 := keep_cell hbz (keep_cell ((Below.refl _ _).alloc (Nat.le_refl _) _) z1); have q0 := keep_cell hbz (keep_cell ((Below.refl _ _).alloc (Nat.le_refl _) _) q0); have q1 := keep_cell hbz (keep_cell ((Below.refl _ _).alloc (Nat.le_refl _) _) q1); obtain ⟨s0, s1⟩ := two_cells (heapB hbz (heap_alloc_new _ _)); have Ac0 := fun o => keep_cell ((Below.refl _ _).alloc (Nat.le_refl _) o) c0; have Ac1 := fun o => keep_cell ((Below.refl _ _).alloc (Nat.le_refl _) o) c1; have Az0 := fun o => keep_cell ((Below.refl _ _).alloc (Nat.le_refl _) o) z0; have Az1 := fun o => keep_cell ((Below.refl _ _).alloc (Nat.le_refl _) o) z1; have Aq0 := fun o => keep_cell ((Below.refl _ _).alloc (Nat.le_refl _) o) q0; have Aq1 := fun o => keep_cell ((Below.refl _ _).alloc (Nat.le_refl _) o) q1; have As0 := fun o => keep_cell ((Below.refl _ _).alloc (Nat.le_refl _) o) s0; have As1 := fun o => keep_cell ((Below.refl _ _).alloc (Nat.le_refl _) o) s1; have HB := Lib.hid (belowT (belowA HB.out _) hbz); clear hbz)
    | (go_at_call 20; (with_reducible refine (HARG.out _).mono ?_); rintro en ZW ⟨rfl, hbz⟩; have c0 := keep_cell hbz (keep_cell ((Below.refl _ _).alloc (Nat.le_refl _) _) c0); have c1 := keep_cell hbz (keep_cell ((Below.refl _ _).alloc (Nat.le_refl _) _) c1); have z0 := keep_cell hbz (keep_cell ((Below.refl _ _).alloc (Nat.le_refl _) _) z0); have z1 := keep_cell hbz (keep_cell ((Below.refl _ _).alloc (Nat.le_refl _) _) z1); have q0 := keep_cell hbz (keep_cell ((Below.refl _ _).alloc (Nat.le_refl _) _) q0); have q1 := keep_cell hbz (keep_cell ((Below.refl _ _).alloc (Nat.le_refl _) _) q1); have s0 := keep_cell hbz (keep_cell ((Below.refl _ _).alloc (Nat.le_refl _) _) s0); have s1 := keep_cell hbz (keep_cell ((Below.refl _ _).alloc (Nat.le_refl _) _) s1); obtain ⟨r0, r1⟩ := two_cells (heapB hbz (heap_alloc_new _ _)); have Ac0 := fun o => keep_cell ((Below.refl _ _).alloc (Nat.le_refl _) o) c0; have Ac1 := fun o => keep_cell ((Below.refl _ _).alloc (Nat.le_refl _) o) c1; have Az0 := fun o => keep_cell ((Below.refl _ _).alloc (Nat.le_refl _) o) z0; have Az1 := fun o => keep_cell ((Below.refl _ _).alloc (Nat.le_refl _) o) z1; have Aq0 := fun o => keep_cell ((Below.refl _ _).alloc (Nat.le_refl _) o) q0; have Aq1 := fun o => keep_cell ((Below.refl _ _).alloc (Nat.le_refl _) o) q1; have As0 := fun o => keep_cell ((Below.refl _ _).alloc (Nat.le_refl _) o) s0; have As1 := fun o => keep_cell ((Below.refl _ _).alloc (Nat.le_refl _) o) s1; have Ar0 := fun o => keep_cell ((Below.refl _ _).alloc (Nat.le_refl _) o) r0; have Ar1 := fun o => keep_cell ((Below.refl _ _).alloc (Nat.le_refl _) o) r1; have HB := Lib.hid (belowT (belowA HB.out _) hbz); clear hbz))
  have HBZ := HB
  clear HB Ac0 Ac1 Az0 Az1 Aq0 Aq1 As0 As1 Ar0 Ar1
  go_cut [39] from 32 to 39 (fun v wx => v = .bool false ∧ Hid (Below ZW.heap.size ZW wx))
  case first =>
    have HSTL : StableL [(fun _ v => v = .agg #[.int .i64 x1, .int .i64 y1]), (fun _ v => v = .int .i64 e1), (fun _ v => v = .int .i64 bad), (fun _ v => v = .int .i64 bad), (fun _ v => v = .func (.func 49) #[] #[.pointer (some ⟨w.heap.size, 0, none⟩), .pointer (some ⟨w.heap.size + 1, 0, none⟩)]), (fun _ v => v = .agg #[.int .i64 a1, .int .i64 b1, .bool k1]), (fun _ v => v = .bool true), (fun _ v => v = .bool false)] := ⟨(fun _ _ _ _ h => h), (fun _ _ _ _ h => h), (fun _ _ _ _ h => h), (fun _ _ _ _ h => h), (fun _ _ _ _ h => h), (fun _ _ _ _ h => h), (fun _ _ _ _ h => h), (fun _ _ _ _ h => h), trivial⟩
    refine wp_region_p [32, 33, 34, 35, 36, 37, 38, 39] [32, 33, 34, 35, 36, 37, 38, 39] [(fun _ v => v = .agg #[.int .i64 x1, .int .i64 y1]), (fun _ v => v = .int .i64 e1), (fun _ v => v = .int .i64 bad), (fun _ v => v = .int .i64 bad), (fun _ v => v = .func (.func 49) #[] #[.pointer (some ⟨w.heap.size, 0, none⟩), .pointer (some ⟨w.heap.size + 1, 0, none⟩)]), (fun _ v => v = .agg #[.int .i64 a1, .int .i64 b1, .bool k1]), (fun _ v => v = .bool true), (fun _ v => v = .bool false)] 8 (fun _ _ => True) 8 rfl (by kernel_rfl) (by kernel_rfl) ?_ ⟨?_, ?_, ?_, ?_, ?_, ?_, ?_, ?_, trivial⟩
    · intro l us wx hl hJ
      have HNF := hJ.nofin (by kernel_rfl)
      have HB := Lib.hid (hJ.below HNF)
      have h39 : us 39 = .bool false := hJ.val HNF 7 (by decide) (hl 7 (by decide))
      clear hl hJ
      simp only [At, List.foldl_cons, List.foldl_nil, List.setIfInBounds_toArray, List.set_cons_zero, List.set_cons_succ]
      go_wp2_with fail
      go_meet
      exact ⟨by first | rfl | assumption, HB⟩
    · refine opAt rfl ?_
      intro l us wx hJ hp hl K hK
      have HJ := Lib.hid hJ; have HP := Lib.hid hp; have HLI := Lib.hid hl; have HF := Lib.hid (hJ.live hl (by decide)); have HBX := Lib.hid (hJ.below HF.out); have HK := hK
      clear hJ hp hl hK
      simp only [At, List.foldl_cons, List.foldl_nil, List.setIfInBounds_toArray, List.set_cons_zero, List.set_cons_succ] at HK
      have HK := Lib.hid HK
      have q0 := keep_cell HBX.out q0
      have q1 := keep_cell HBX.out q1
      simp only [At, List.foldl_cons, List.foldl_nil, List.setIfInBounds_toArray, List.set_cons_zero, List.set_cons_succ]
      refine ⟨?_⟩
      go_simp
      exact HK.out (upd us 32 (.agg #[.int .i64 x1, .int .i64 y1])) wx (by exact HJ.out.go HSTL (by kernel_rfl) 0 HF.out (by decide) (by decide) HP.out (Below.refl _ _) (.agg #[.int .i64 x1, .int .i64 y1]) (rfl))
    · refine opAt rfl ?_
      intro l us wx hJ hp hl K hK
      have HJ := Lib.hid hJ; have HP := Lib.hid hp; have HLI := Lib.hid hl; have HF := Lib.hid (hJ.live hl (by decide)); have HBX := Lib.hid (hJ.below HF.out); have HK := hK
      clear hJ hp hl hK
      simp only [At, List.foldl_cons, List.foldl_nil, List.setIfInBounds_toArray, List.set_cons_zero, List.set_cons_succ] at HK
      have HK := Lib.hid HK
      simp only [At, List.foldl_cons, List.foldl_nil, List.setIfInBounds_toArray, List.set_cons_zero, List.set_cons_succ]
      refine ⟨?_⟩
      go_simp
      exact HK.out (upd us 33 (.int .i64 e1)) wx (by exact HJ.out.go HSTL (by kernel_rfl) 1 HF.out (by decide) (by decide) HP.out (Below.refl _ _) (.int .i64 e1) (rfl))
    · refine opAt rfl ?_
      intro l us wx hJ hp hl K hK
      have HJ := Lib.hid hJ; have HP := Lib.hid hp; have HLI := Lib.hid hl; have HF := Lib.hid (hJ.live hl (by decide)); have HBX := Lib.hid (hJ.below HF.out); have HK := hK
      clear hJ hp hl hK
      simp only [At, List.foldl_cons, List.foldl_nil, List.setIfInBounds_toArray, List.set_cons_zero, List.set_cons_succ] at HK
      have HK := Lib.hid HK
      simp only [At, List.foldl_cons, List.foldl_nil, List.setIfInBounds_toArray, List.set_cons_zero, List.set_cons_succ]
      refine ⟨?_⟩
      go_simp
      exact HK.out (upd us 34 (.int .i64 bad)) wx (by exact HJ.out.go HSTL (by kernel_rfl) 2 HF.out (by decide) (by decide) HP.out (Below.refl _ _) (.int .i64 bad) (rfl))
    · refine opAt rfl ?_
      intro l us wx hJ hp hl K hK
      have HJ := Lib.hid hJ; have HP := Lib.hid hp; have HLI := Lib.hid hl; have HF := Lib.hid (hJ.live hl (by decide)); have HBX := Lib.hid (hJ.below HF.out); have HK := hK
      clear hJ hp hl hK
      simp only [At, List.foldl_cons, List.foldl_nil, List.setIfInBounds_toArray, List.set_cons_zero, List.set_cons_succ] at HK
      have HK := Lib.hid HK
      simp only [At, List.foldl_cons, List.foldl_nil, List.setIfInBounds_toArray, List.set_cons_zero, List.set_cons_succ]
      refine ⟨?_⟩
      go_simp
      exact HK.out (upd us 35 (.int .i64 bad)) wx (by exact HJ.out.go HSTL (by kernel_rfl) 3 HF.out (by decide) (by decide) HP.out (Below.refl _ _) (.int .i64 bad) (rfl))
    · refine opAt rfl ?_
      intro l us wx hJ hp hl K hK
      have HJ := Lib.hid hJ; have HP := Lib.hid hp; have HLI := Lib.hid hl; have HF := Lib.hid (hJ.live hl (by decide)); have HBX := Lib.hid (hJ.below HF.out); have HK := hK
      clear hJ hp hl hK
      simp only [At, List.foldl_cons, List.foldl_nil, List.setIfInBounds_toArray, List.set_cons_zero, List.set_cons_succ] at HK
      have HK := Lib.hid HK
      simp only [At, List.foldl_cons, List.foldl_nil, List.setIfInBounds_toArray, List.set_cons_zero, List.set_cons_succ]
      refine ⟨?_⟩
      go_simp
      exact HK.out (upd us 36 (.func (.func 49) #[] #[.pointer (some ⟨w.heap.size, 0, none⟩), .pointer (some ⟨w.heap.size + 1, 0, none⟩)])) wx (by exact HJ.out.go HSTL (by kernel_rfl) 4 HF.out (by decide) (by decide) HP.out (Below.refl _ _) (.func (.func 49) #[] #[.pointer (some ⟨w.heap.size, 0, none⟩), .pointer (some ⟨w.heap.size + 1, 0, none⟩)]) (rfl))
    · refine opAt rfl ?_
      intro l us wx hJ hp hl K hK
      have HJ := Lib.hid hJ; have HP := Lib.hid hp; have HLI := Lib.hid hl; have HF := Lib.hid (hJ.live hl (by decide)); have HBX := Lib.hid (hJ.below HF.out); have HK := hK
      clear hJ hp hl hK
      simp only [At, List.foldl_cons, List.foldl_nil, List.setIfInBounds_toArray, List.set_cons_zero, List.set_cons_succ] at HK
      have HK := Lib.hid HK
      have h35 : us 35 = .int .i64 bad := HJ.out.val HF.out 3 (by decide) (HP.out 3 (by kernel_rfl))
      have h36 : us 36 = .func (.func 49) #[] #[.pointer (some ⟨w.heap.size, 0, none⟩), .pointer (some ⟨w.heap.size + 1, 0, none⟩)] := HJ.out.val HF.out 4 (by decide) (HP.out 4 (by kernel_rfl))
      have c0 := keep_cell HBX.out c0
      have c1 := keep_cell HBX.out c1
      have z0 := keep_cell HBX.out z0
      have z1 := keep_cell HBX.out z1
      simp only [At, List.foldl_cons, List.foldl_nil, List.setIfInBounds_toArray, List.set_cons_zero, List.set_cons_succ]
      refine ⟨?_⟩
      go_simp
      go_wp2_with ((go_at_call 22; (with_reducible refine (HNONE1.out _ c0 c1 z0 z1).mono ?_); rintro en w9 ⟨rfl, hbz⟩; have HC := Lib.hid hbz; clear hbz))
      exact HK.out (upd (upd (upd us 35 (.int .i64 bad)) 36 (.func (.func 49) #[] #[.pointer (some ⟨w.heap.size, 0, none⟩), .pointer (some ⟨w.heap.size + 1, 0, none⟩)])) 37 (.agg #[.int .i64 a1, .int .i64 b1, .bool k1])) w9 (by rw [upd_self h35, upd_self h36]; exact HJ.out.go HSTL (by kernel_rfl) 5 HF.out (by decide) (by decide) HP.out HC.out (.agg #[.int .i64 a1, .int .i64 b1, .bool k1]) (rfl))
    · refine opAt rfl ?_
      intro l us wx hJ hp hl K hK
      have HJ := Lib.hid hJ; have HP := Lib.hid hp; have HLI := Lib.hid hl; have HF := Lib.hid (hJ.live hl (by decide)); have HBX := Lib.hid (hJ.below HF.out); have HK := hK
      clear hJ hp hl hK
      simp only [At, List.foldl_cons, List.foldl_nil, List.setIfInBounds_toArray, List.set_cons_zero, List.set_cons_succ] at HK
      have HK := Lib.hid HK
      have h32 : us 32 = .agg #[.int .i64 x1, .int .i64 y1] := HJ.out.val HF.out 0 (by decide) (HP.out 0 (by kernel_rfl))
      have h33 : us 33 = .int .i64 e1 := HJ.out.val HF.out 1 (by decide) (HP.out 1 (by kernel_rfl))
      have h34 : us 34 = .int .i64 bad := HJ.out.val HF.out 2 (by decide) (HP.out 2 (by kernel_rfl))
      have h37 : us 37 = .agg #[.int .i64 a1, .int .i64 b1, .bool k1] := HJ.out.val HF.out 5 (by decide) (HP.out 5 (by kernel_rfl))
      simp only [At, List.foldl_cons, List.foldl_nil, List.setIfInBounds_toArray, List.set_cons_zero, List.set_cons_succ]
      refine ⟨?_⟩
      go_simp
      go_wp2_with ((go_at_call 21; (with_reducible refine (HAG1.out _).mono ?_); rintro en w9 ⟨rfl, hbz⟩; have HC := Lib.hid hbz; clear hbz))
      exact HK.out (upd (upd (upd (upd (upd us 32 (.agg #[.int .i64 x1, .int .i64 y1])) 33 (.int .i64 e1)) 34 (.int .i64 bad)) 37 (.agg #[.int .i64 a1, .int .i64 b1, .bool k1])) 38 (.bool true)) w9 (by rw [upd_self h32, upd_self h33, upd_self h34, upd_self h37]; exact HJ.out.go HSTL (by kernel_rfl) 6 HF.out (by decide) (by decide) HP.out HC.out (.bool true) (rfl))
    · refine opAt rfl ?_
      intro l us wx hJ hp hl K hK
      have HJ := Lib.hid hJ; have HP := Lib.hid hp; have HLI := Lib.hid hl; have HF := Lib.hid (hJ.live hl (by decide)); have HBX := Lib.hid (hJ.below HF.out); have HK := hK
      clear hJ hp hl hK
      simp only [At, List.foldl_cons, List.foldl_nil, List.setIfInBounds_toArray, List.set_cons_zero, List.set_cons_succ] at HK
      have HK := Lib.hid HK
      have h38 : us 38 = .bool true := HJ.out.val HF.out 6 (by decide) (HP.out 6 (by kernel_rfl))
      simp only [At, List.foldl_cons, List.foldl_nil, List.setIfInBounds_toArray, List.set_cons_zero, List.set_cons_succ]
      refine ⟨?_⟩
      go_simp
      exact HK.out (upd (upd us 38 (.bool true)) 39 (.bool false)) wx (by rw [upd_self h38]; exact HJ.out.go HSTL (by kernel_rfl) 7 HF.out (by decide) (by decide) HP.out (Below.refl _ _) (.bool false) (rfl))
  obtain ⟨rfl, HBC⟩ := hcut
  obtain ⟨T, hT⟩ : ∃ T, wc = T := ⟨_, rfl⟩
  rw [hT] at HBC ⊢
  clear hT
  have c0 := keep_cell HBC.out c0; have c1 := keep_cell HBC.out c1; have z0 := keep_cell HBC.out z0; have z1 := keep_cell HBC.out z1; have s0 := keep_cell HBC.out s0; have s1 := keep_cell HBC.out s1; have r0 := keep_cell HBC.out r0; have r1 := keep_cell HBC.out r1
  have HB := Lib.hid (belowT HBZ.out HBC.out)
  clear HBZ HBC
  go_upto_region 7 with fail
  go_cut [46] from 40 to 46 (fun v wx => v = .bool t1 ∧ wx = T)
  case first =>
    rcases H01.out with rfl | rfl
    · by_cases h1 : ym = 0
      · obtain rfl : t1 = true := HT1.out.2 ⟨rfl, h1⟩
        rw [h1] at z0; clear h1
        go_wp2_with fail
        go_meet
        exact ⟨by first | rfl | rw [h2], rfl⟩
      · obtain rfl : t1 = false := by
          cases t1
          · rfl
          · exact absurd (HT1.out.1 rfl).2 h1
        have h2 : (ym == 0) = false := by simp [h1]
        go_wp2_with fail
        go_meet
        exact ⟨by first | rfl | rw [h2], rfl⟩
    · obtain rfl : t1 = false := by
        cases t1
        · rfl
        · exact absurd (HT1.out.1 rfl).1 (by decide)
      go_wp2_with fail
      go_meet
      exact ⟨rfl, rfl⟩
  obtain ⟨rfl, hT⟩ := hcut
  rw [hT]
  clear hT
  go_upto_if 46 with fail
  go_cut [11] from 46 to 46 (fun v wx => v = .int .i64 bad2 ∧ wx = T)
  case first =>
    cases t1
    · obtain rfl : bad2 = bad := HB1.out.trans (if_neg (by decide))
      go_wp2_with fail
      go_meet
      exact ⟨rfl, rfl⟩
    · obtain rfl : bad2 = 5 := HB1.out.trans (if_pos rfl)
      go_wp2_with fail
      go_meet
      exact ⟨rfl, rfl⟩
  obtain ⟨rfl, hT⟩ := hcut
  rw [hT]
  clear hT
  go_upto_region 9 with fail
  have HBZ := HB
  clear HB
  go_cut [54] from 47 to 54 (fun v wx => v = .bool false ∧ Hid (Below T.heap.size T wx))
  case first =>
    have HSTL : StableL [(fun _ v => v = .agg #[.int .i64 x2, .int .i64 y2]), (fun _ v => v = .int .i64 e2), (fun _ v => v = .int .i64 bad2), (fun _ v => v = .int .i64 bad2), (fun _ v => v = .func (.func 52) #[] #[.pointer (some ⟨w.heap.size, 0, none⟩), .pointer (some ⟨w.heap.size + 1, 0, none⟩)]), (fun _ v => v = .agg #[.int .i64 a2, .int .i64 b2, .bool k2]), (fun _ v => v = .bool true), (fun _ v => v = .bool false)] := ⟨(fun _ _ _ _ h => h), (fun _ _ _ _ h => h), (fun _ _ _ _ h => h), (fun _ _ _ _ h => h), (fun _ _ _ _ h => h), (fun _ _ _ _ h => h), (fun _ _ _ _ h => h), (fun _ _ _ _ h => h), trivial⟩
    refine wp_region_p [47, 48, 49, 50, 51, 52, 53, 54] [47, 48, 49, 50, 51, 52, 53, 54] [(fun _ v => v = .agg #[.int .i64 x2, .int .i64 y2]), (fun _ v => v = .int .i64 e2), (fun _ v => v = .int .i64 bad2), (fun _ v => v = .int .i64 bad2), (fun _ v => v = .func (.func 52) #[] #[.pointer (some ⟨w.heap.size, 0, none⟩), .pointer (some ⟨w.heap.size + 1, 0, none⟩)]), (fun _ v => v = .agg #[.int .i64 a2, .int .i64 b2, .bool k2]), (fun _ v => v = .bool true), (fun _ v => v = .bool false)] 8 (fun _ _ => True) 8 rfl (by kernel_rfl) (by kernel_rfl) ?_ ⟨?_, ?_, ?_, ?_, ?_, ?_, ?_, ?_, trivial⟩
    · intro l us wx hl hJ
      have HNF := hJ.nofin (by kernel_rfl)
      have HB := Lib.hid (hJ.below HNF)
      have h54 : us 54 = .bool false := hJ.val HNF 7 (by decide) (hl 7 (by decide))
      clear hl hJ
      simp only [At, List.foldl_cons, List.foldl_nil, List.setIfInBounds_toArray, List.set_cons_zero, List.set_cons_succ]
      go_wp2_with fail
      go_meet
      exact ⟨by first | rfl | assumption, HB⟩
    · refine opAt rfl ?_
      intro l us wx hJ hp hl K hK
      have HJ := Lib.hid hJ; have HP := Lib.hid hp; have HLI := Lib.hid hl; have HF := Lib.hid (hJ.live hl (by decide)); have HBX := Lib.hid (hJ.below HF.out); have HK := hK
      clear hJ hp hl hK
      simp only [At, List.foldl_cons, List.foldl_nil, List.setIfInBounds_toArray, List.set_cons_zero, List.set_cons_succ] at HK
      have HK := Lib.hid HK
      have s0 := keep_cell HBX.out s0
      have s1 := keep_cell HBX.out s1
      simp only [At, List.foldl_cons, List.foldl_nil, List.setIfInBounds_toArray, List.set_cons_zero, List.set_cons_succ]
      refine ⟨?_⟩
      go_simp
      exact HK.out (upd us 47 (.agg #[.int .i64 x2, .int .i64 y2])) wx (by exact HJ.out.go HSTL (by kernel_rfl) 0 HF.out (by decide) (by decide) HP.out (Below.refl _ _) (.agg #[.int .i64 x2, .int .i64 y2]) (rfl))
    · refine opAt rfl ?_
      intro l us wx hJ hp hl K hK
      have HJ := Lib.hid hJ; have HP := Lib.hid hp; have HLI := Lib.hid hl; have HF := Lib.hid (hJ.live hl (by decide)); have HBX := Lib.hid (hJ.below HF.out); have HK := hK
      clear hJ hp hl hK
      simp only [At, List.foldl_cons, List.foldl_nil, List.setIfInBounds_toArray, List.set_cons_zero, List.set_cons_succ] at HK
      have HK := Lib.hid HK
      simp only [At, List.foldl_cons, List.foldl_nil, List.setIfInBounds_toArray, List.set_cons_zero, List.set_cons_succ]
      refine ⟨?_⟩
      go_simp
      exact HK.out (upd us 48 (.int .i64 e2)) wx (by exact HJ.out.go HSTL (by kernel_rfl) 1 HF.out (by decide) (by decide) HP.out (Below.refl _ _) (.int .i64 e2) (rfl))
    · refine opAt rfl ?_
      intro l us wx hJ hp hl K hK
      have HJ := Lib.hid hJ; have HP := Lib.hid hp; have HLI := Lib.hid hl; have HF := Lib.hid (hJ.live hl (by decide)); have HBX := Lib.hid (hJ.below HF.out); have HK := hK
      clear hJ hp hl hK
      simp only [At, List.foldl_cons, List.foldl_nil, List.setIfInBounds_toArray, List.set_cons_zero, List.set_cons_succ] at HK
      have HK := Lib.hid HK
      simp only [At, List.foldl_cons, List.foldl_nil, List.setIfInBounds_toArray, List.set_cons_zero, List.set_cons_succ]
      refine ⟨?_⟩
      go_simp
      exact HK.out (upd us 49 (.int .i64 bad2)) wx (by exact HJ.out.go HSTL (by kernel_rfl) 2 HF.out (by decide) (by decide) HP.out (Below.refl _ _) (.int .i64 bad2) (rfl))
    · refine opAt rfl ?_
      intro l us wx hJ hp hl K hK
      have HJ := Lib.hid hJ; have HP := Lib.hid hp; have HLI := Lib.hid hl; have HF := Lib.hid (hJ.live hl (by decide)); have HBX := Lib.hid (hJ.below HF.out); have HK := hK
      clear hJ hp hl hK
      simp only [At, List.foldl_cons, List.foldl_nil, List.setIfInBounds_toArray, List.set_cons_zero, List.set_cons_succ] at HK
      have HK := Lib.hid HK
      simp only [At, List.foldl_cons, List.foldl_nil, List.setIfInBounds_toArray, List.set_cons_zero, List.set_cons_succ]
      refine ⟨?_⟩
      go_simp
      exact HK.out (upd us 50 (.int .i64 bad2)) wx (by exact HJ.out.go HSTL (by kernel_rfl) 3 HF.out (by decide) (by decide) HP.out (Below.refl _ _) (.int .i64 bad2) (rfl))
    · refine opAt rfl ?_
      intro l us wx hJ hp hl K hK
      have HJ := Lib.hid hJ; have HP := Lib.hid hp; have HLI := Lib.hid hl; have HF := Lib.hid (hJ.live hl (by decide)); have HBX := Lib.hid (hJ.below HF.out); have HK := hK
      clear hJ hp hl hK
      simp only [At, List.foldl_cons, List.foldl_nil, List.setIfInBounds_toArray, List.set_cons_zero, List.set_cons_succ] at HK
      have HK := Lib.hid HK
      simp only [At, List.foldl_cons, List.foldl_nil, List.setIfInBounds_toArray, List.set_cons_zero, List.set_cons_succ]
      refine ⟨?_⟩
      go_simp
      exact HK.out (upd us 51 (.func (.func 52) #[] #[.pointer (some ⟨w.heap.size, 0, none⟩), .pointer (some ⟨w.heap.size + 1, 0, none⟩)])) wx (by exact HJ.out.go HSTL (by kernel_rfl) 4 HF.out (by decide) (by decide) HP.out (Below.refl _ _) (.func (.func 52) #[] #[.pointer (some ⟨w.heap.size, 0, none⟩), .pointer (some ⟨w.heap.size + 1, 0, none⟩)]) (rfl))
    · refine opAt rfl ?_
      intro l us wx hJ hp hl K hK
      have HJ := Lib.hid hJ; have HP := Lib.hid hp; have HLI := Lib.hid hl; have HF := Lib.hid (hJ.live hl (by decide)); have HBX := Lib.hid (hJ.below HF.out); have HK := hK
      clear hJ hp hl hK
      simp only [At, List.foldl_cons, List.foldl_nil, List.setIfInBounds_toArray, List.set_cons_zero, List.set_cons_succ] at HK
      have HK := Lib.hid HK
      have h50 : us 50 = .int .i64 bad2 := HJ.out.val HF.out 3 (by decide) (HP.out 3 (by kernel_rfl))
      have h51 : us 51 = .func (.func 52) #[] #[.pointer (some ⟨w.heap.size, 0, none⟩), .pointer (some ⟨w.heap.size + 1, 0, none⟩)] := HJ.out.val HF.out 4 (by decide) (HP.out 4 (by kernel_rfl))
      have c0 := keep_cell HBX.out c0
      have c1 := keep_cell HBX.out c1
      have z0 := keep_cell HBX.out z0
      have z1 := keep_cell HBX.out z1
      simp only [At, List.foldl_cons, List.foldl_nil, List.setIfInBounds_toArray, List.set_cons_zero, List.set_cons_succ]
      refine ⟨?_⟩
      go_simp
      go_wp2_with ((go_at_call 22; (with_reducible refine (HNONE2.out _ c0 c1 z0 z1).mono ?_); rintro en w9 ⟨rfl, hbz⟩; have HC := Lib.hid hbz; clear hbz))
      exact HK.out (upd (upd (upd us 50 (.int .i64 bad2)) 51 (.func (.func 52) #[] #[.pointer (some ⟨w.heap.size, 0, none⟩), .pointer (some ⟨w.heap.size + 1, 0, none⟩)])) 52 (.agg #[.int .i64 a2, .int .i64 b2, .bool k2])) w9 (by rw [upd_self h50, upd_self h51]; exact HJ.out.go HSTL (by kernel_rfl) 5 HF.out (by decide) (by decide) HP.out HC.out (.agg #[.int .i64 a2, .int .i64 b2, .bool k2]) (rfl))
    · refine opAt rfl ?_
      intro l us wx hJ hp hl K hK
      have HJ := Lib.hid hJ; have HP := Lib.hid hp; have HLI := Lib.hid hl; have HF := Lib.hid (hJ.live hl (by decide)); have HBX := Lib.hid (hJ.below HF.out); have HK := hK
      clear hJ hp hl hK
      simp only [At, List.foldl_cons, List.foldl_nil, List.setIfInBounds_toArray, List.set_cons_zero, List.set_cons_succ] at HK
      have HK := Lib.hid HK
      have h47 : us 47 = .agg #[.int .i64 x2, .int .i64 y2] := HJ.out.val HF.out 0 (by decide) (HP.out 0 (by kernel_rfl))
      have h48 : us 48 = .int .i64 e2 := HJ.out.val HF.out 1 (by decide) (HP.out 1 (by kernel_rfl))
      have h49 : us 49 = .int .i64 bad2 := HJ.out.val HF.out 2 (by decide) (HP.out 2 (by kernel_rfl))
      have h52 : us 52 = .agg #[.int .i64 a2, .int .i64 b2, .bool k2] := HJ.out.val HF.out 5 (by decide) (HP.out 5 (by kernel_rfl))
      simp only [At, List.foldl_cons, List.foldl_nil, List.setIfInBounds_toArray, List.set_cons_zero, List.set_cons_succ]
      refine ⟨?_⟩
      go_simp
      go_wp2_with ((go_at_call 21; (with_reducible refine (HAG2.out _).mono ?_); rintro en w9 ⟨rfl, hbz⟩; have HC := Lib.hid hbz; clear hbz))
      exact HK.out (upd (upd (upd (upd (upd us 47 (.agg #[.int .i64 x2, .int .i64 y2])) 48 (.int .i64 e2)) 49 (.int .i64 bad2)) 52 (.agg #[.int .i64 a2, .int .i64 b2, .bool k2])) 53 (.bool true)) w9 (by rw [upd_self h47, upd_self h48, upd_self h49, upd_self h52]; exact HJ.out.go HSTL (by kernel_rfl) 6 HF.out (by decide) (by decide) HP.out HC.out (.bool true) (rfl))
    · refine opAt rfl ?_
      intro l us wx hJ hp hl K hK
      have HJ := Lib.hid hJ; have HP := Lib.hid hp; have HLI := Lib.hid hl; have HF := Lib.hid (hJ.live hl (by decide)); have HBX := Lib.hid (hJ.below HF.out); have HK := hK
      clear hJ hp hl hK
      simp only [At, List.foldl_cons, List.foldl_nil, List.setIfInBounds_toArray, List.set_cons_zero, List.set_cons_succ] at HK
      have HK := Lib.hid HK
      have h53 : us 53 = .bool true := HJ.out.val HF.out 6 (by decide) (HP.out 6 (by kernel_rfl))
      simp only [At, List.foldl_cons, List.foldl_nil, List.setIfInBounds_toArray, List.set_cons_zero, List.set_cons_succ]
      refine ⟨?_⟩
      go_simp
      exact HK.out (upd (upd us 53 (.bool true)) 54 (.bool false)) wx (by rw [upd_self h53]; exact HJ.out.go HSTL (by kernel_rfl) 7 HF.out (by decide) (by decide) HP.out (Below.refl _ _) (.bool false) (rfl))
  obtain ⟨rfl, HBC⟩ := hcut
  obtain ⟨U, hT⟩ : ∃ T, wc = T := ⟨_, rfl⟩
  rw [hT] at HBC ⊢
  clear hT
  have c0 := keep_cell HBC.out c0; have c1 := keep_cell HBC.out c1; have z0 := keep_cell HBC.out z0; have z1 := keep_cell HBC.out z1; have r0 := keep_cell HBC.out r0; have r1 := keep_cell HBC.out r1
  have HB := Lib.hid (belowT HBZ.out HBC.out)
  clear HBZ HBC
  go_upto_region 12 with (first
    | (go_at_call 20; (with_reducible refine (HARX.out _).mono ?_); rintro en ZV ⟨rfl, hbz⟩; have c0 := keep_cell hbz c0; have c1 := keep_cell hbz c1; have r0 := keep_cell hbz r0; have r1 := keep_cell hbz r1; have Ac0 := fun o => keep_cell ((Below.refl _ _).alloc (Nat.le_refl _) o) c0; have Ac1 := fun o => keep_cell ((Below.refl _ _).alloc (Nat.le_refl _) o) c1; have Ar0 := fun o => keep_cell ((Below.refl _ _).alloc (Nat.le_refl _) o) r0; have Ar1 := fun o => keep_cell ((Below.refl _ _).alloc (Nat.le_refl _) o) r1; have HB := Lib.hid (belowT HB.out hbz); clear hbz))
  clear Ac0 Ac1 Ar0 Ar1
  go_cut [64] from 58 to 64 (fun v wx => v = .bool t2 ∧ wx = ZV)
  case first =>
    rcases H01X.out with rfl | rfl
    · by_cases h1 : xm < 0
      · obtain rfl : t2 = true := HT2.out.2 ⟨rfl, h1⟩
        have h2 : decide (xm < 0) = true := decide_eq_true h1
        go_wp2_with fail
        go_meet
        exact ⟨by first | rfl | rw [h2], rfl⟩
      · obtain rfl : t2 = false := by
          cases t2
          · rfl
          · exact absurd (HT2.out.1 rfl).2 h1
        have h2 : decide (xm < 0) = false := decide_eq_false h1
        go_wp2_with fail
        go_meet
        exact ⟨by first | rfl | rw [h2], rfl⟩
    · obtain rfl : t2 = false := by
        cases t2
        · rfl
        · exact absurd (HT2.out.1 rfl).1 (by decide)
      go_wp2_with fail
      go_meet
      exact ⟨rfl, rfl⟩
  obtain ⟨rfl, hT⟩ := hcut
  rw [hT]
  clear hT
  go_upto_if 64 with fail
  go_cut [11] from 64 to 64 (fun v wx => v = .int .i64 bad3 ∧ wx = ZV)
  case first =>
    cases t2
    · obtain rfl : bad3 = badx := HB2.out.trans (if_neg (by decide))
      go_wp2_with fail
      go_meet
      exact ⟨rfl, rfl⟩
    · obtain rfl : bad3 = 5 := HB2.out.trans (if_pos rfl)
      go_wp2_with fail
      go_meet
      exact ⟨rfl, rfl⟩
  obtain ⟨rfl, hT⟩ := hcut
  rw [hT]
  clear hT
  go_upto_region 14 with fail
  have HBZ := HB
  clear HB
  go_cut [4] from 65 to 74 (fun v wx => v = .bool true ∧ Hid (Below ZV.heap.size ZV wx))
  case first =>
    have HSTL : StableL [(fun _ v => v = .bool true), (fun _ v => v = .bool true), (fun _ v => v = .agg #[.int .i64 x3, .int .i64 y3]), (fun _ v => v = .int .i64 e3), (fun _ v => v = .int .i64 bad3), (fun _ v => v = .int .i64 bad3), (fun _ v => v = .func (.func 54) #[] #[.pointer (some ⟨w.heap.size, 0, none⟩)]), (fun _ v => v = .agg #[.int .i64 a3, .int .i64 b3, .bool k3]), (fun _ v => v = .bool true), (fun _ v => v = .bool true), (fun _ v => v = .bool true)] := ⟨(fun _ _ _ _ h => h), (fun _ _ _ _ h => h), (fun _ _ _ _ h => h), (fun _ _ _ _ h => h), (fun _ _ _ _ h => h), (fun _ _ _ _ h => h), (fun _ _ _ _ h => h), (fun _ _ _ _ h => h), (fun _ _ _ _ h => h), (fun _ _ _ _ h => h), (fun _ _ _ _ h => h), trivial⟩
    refine wp_region_p [65, 66, 67, 68, 69, 70, 71, 72, 73, 74, 4] [65, 66, 67, 68, 69, 70, 71, 72, 73, 74, 4] [(fun _ v => v = .bool true), (fun _ v => v = .bool true), (fun _ v => v = .agg #[.int .i64 x3, .int .i64 y3]), (fun _ v => v = .int .i64 e3), (fun _ v => v = .int .i64 bad3), (fun _ v => v = .int .i64 bad3), (fun _ v => v = .func (.func 54) #[] #[.pointer (some ⟨w.heap.size, 0, none⟩)]), (fun _ v => v = .agg #[.int .i64 a3, .int .i64 b3, .bool k3]), (fun _ v => v = .bool true), (fun _ v => v = .bool true), (fun _ v => v = .bool true)] 11 (fun _ _ => True) 11 rfl (by kernel_rfl) (by kernel_rfl) ?_ ⟨?_, ?_, ?_, ?_, ?_, ?_, ?_, ?_, ?_, ?_, ?_, trivial⟩
    · intro l us wx hl hJ
      have HNF := hJ.nofin (by kernel_rfl)
      have HB := Lib.hid (hJ.below HNF)
      have h4 : us 4 = .bool true := hJ.val HNF 10 (by decide) (hl 10 (by decide))
      clear hl hJ
      simp only [At, List.foldl_cons, List.foldl_nil, List.setIfInBounds_toArray, List.set_cons_zero, List.set_cons_succ]
      go_wp2_with fail
      go_meet
      exact ⟨by first | rfl | assumption, HB⟩
    · refine opAt rfl ?_
      intro l us wx hJ hp hl K hK
      have HJ := Lib.hid hJ; have HP := Lib.hid hp; have HLI := Lib.hid hl; have HF := Lib.hid (hJ.live hl (by decide)); have HBX := Lib.hid (hJ.below HF.out); have HK := hK
      clear hJ hp hl hK
      simp only [At, List.foldl_cons, List.foldl_nil, List.setIfInBounds_toArray, List.set_cons_zero, List.set_cons_succ] at HK
      have HK := Lib.hid HK
      simp only [At, List.foldl_cons, List.foldl_nil, List.setIfInBounds_toArray, List.set_cons_zero, List.set_cons_succ]
      refine ⟨?_⟩
      go_simp
      go_wp2_with ((go_at_call 25; (with_reducible refine (HSAN.out _ (HT.out.below (belowT HBZ.out HBX.out))).mono ?_); rintro en w9 ⟨rfl, hbz⟩; have HC := Lib.hid hbz; clear hbz))
      exact HK.out (upd us 65 (.bool true)) w9 (by exact HJ.out.go HSTL (by kernel_rfl) 0 HF.out (by decide) (by decide) HP.out HC.out (.bool true) (rfl))
    · refine opAt rfl ?_
      intro l us wx hJ hp hl K hK
      have HJ := Lib.hid hJ; have HP := Lib.hid hp; have HLI := Lib.hid hl; have HF := Lib.hid (hJ.live hl (by decide)); have HBX := Lib.hid (hJ.below HF.out); have HK := hK
      clear hJ hp hl hK
      simp only [At, List.foldl_cons, List.foldl_nil, List.setIfInBounds_toArray, List.set_cons_zero, List.set_cons_succ] at HK
      have HK := Lib.hid HK
      have h65 : us 65 = .bool true := HJ.out.val HF.out 0 (by decide) (HP.out 0 (by kernel_rfl))
      simp only [At, List.foldl_cons, List.foldl_nil, List.setIfInBounds_toArray, List.set_cons_zero, List.set_cons_succ]
      refine ⟨?_⟩
      go_simp
      exact HK.out (upd (upd us 65 (.bool true)) 66 (.bool true)) wx (by rw [upd_self h65]; exact HJ.out.go HSTL (by kernel_rfl) 1 HF.out (by decide) (by decide) HP.out (Below.refl _ _) (.bool true) (rfl))
    · refine opAt rfl ?_
      intro l us wx hJ hp hl K hK
      have HJ := Lib.hid hJ; have HP := Lib.hid hp; have HLI := Lib.hid hl; have HF := Lib.hid (hJ.live hl (by decide)); have HBX := Lib.hid (hJ.below HF.out); have HK := hK
      clear hJ hp hl hK
      simp only [At, List.foldl_cons, List.foldl_nil, List.setIfInBounds_toArray, List.set_cons_zero, List.set_cons_succ] at HK
      have HK := Lib.hid HK
      have h66 : us 66 = .bool true := HJ.out.val HF.out 1 (by decide) (HP.out 1 (by kernel_rfl))
      have r0 := keep_cell HBX.out r0
      have r1 := keep_cell HBX.out r1
      simp only [At, List.foldl_cons, List.foldl_nil, List.setIfInBounds_toArray, List.set_cons_zero, List.set_cons_succ]
      refine ⟨?_⟩
      go_simp
      exact HK.out (upd (upd us 66 (.bool true)) 67 (.agg #[.int .i64 x3, .int .i64 y3])) wx (by rw [upd_self h66]; exact HJ.out.go HSTL (by kernel_rfl) 2 HF.out (by decide) (by decide) HP.out (Below.refl _ _) (.agg #[.int .i64 x3, .int .i64 y3]) (rfl))
    · refine opAt rfl ?_
      intro l us wx hJ hp hl K hK
      have HJ := Lib.hid hJ; have HP := Lib.hid hp; have HLI := Lib.hid hl; have HF := Lib.hid (hJ.live hl (by decide)); have HBX := Lib.hid (hJ.below HF.out); have HK := hK
      clear hJ hp hl hK
      simp only [At, List.foldl_cons, List.foldl_nil, List.setIfInBounds_toArray, List.set_cons_zero, List.set_cons_succ] at HK
      have HK := Lib.hid HK
      have h66 : us 66 = .bool true := HJ.out.val HF.out 1 (by decide) (HP.out 1 (by kernel_rfl))
      simp only [At, List.foldl_cons, List.foldl_nil, List.setIfInBounds_toArray, List.set_cons_zero, List.set_cons_succ]
      refine ⟨?_⟩
      go_simp
      exact HK.out (upd (upd us 66 (.bool true)) 68 (.int .i64 e3)) wx (by rw [upd_self h66]; exact HJ.out.go HSTL (by kernel_rfl) 3 HF.out (by decide) (by decide) HP.out (Below.refl _ _) (.int .i64 e3) (rfl))
    · refine opAt rfl ?_
      intro l us wx hJ hp hl K hK
      have HJ := Lib.hid hJ; have HP := Lib.hid hp; have HLI := Lib.hid hl; have HF := Lib.hid (hJ.live hl (by decide)); have HBX := Lib.hid (hJ.below HF.out); have HK := hK
      clear hJ hp hl hK
      simp only [At, List.foldl_cons, List.foldl_nil, List.setIfInBounds_toArray, List.set_cons_zero, List.set_cons_succ] at HK
      have HK := Lib.hid HK
      have h66 : us 66 = .bool true := HJ.out.val HF.out 1 (by decide) (HP.out 1 (by kernel_rfl))
      simp only [At, List.foldl_cons, List.foldl_nil, List.setIfInBounds_toArray, List.set_cons_zero, List.set_cons_succ]
      refine ⟨?_⟩
      go_simp
      exact HK.out (upd (upd us 66 (.bool true)) 69 (.int .i64 bad3)) wx (by rw [upd_self h66]; exact HJ.out.go HSTL (by kernel_rfl) 4 HF.out (by decide) (by decide) HP.out (Below.refl _ _) (.int .i64 bad3) (rfl))
    · refine opAt rfl ?_
      intro l us wx hJ hp hl K hK
      have HJ := Lib.hid hJ; have HP := Lib.hid hp; have HLI := Lib.hid hl; have HF := Lib.hid (hJ.live hl (by decide)); have HBX := Lib.hid (hJ.below HF.out); have HK := hK
      clear hJ hp hl hK
      simp only [At, List.foldl_cons, List.foldl_nil, List.setIfInBounds_toArray, List.set_cons_zero, List.set_cons_succ] at HK
      have HK := Lib.hid HK
      have h66 : us 66 = .bool true := HJ.out.val HF.out 1 (by decide) (HP.out 1 (by kernel_rfl))
      simp only [At, List.foldl_cons, List.foldl_nil, List.setIfInBounds_toArray, List.set_cons_zero, List.set_cons_succ]
      refine ⟨?_⟩
      go_simp
      exact HK.out (upd (upd us 66 (.bool true)) 70 (.int .i64 bad3)) wx (by rw [upd_self h66]; exact HJ.out.go HSTL (by kernel_rfl) 5 HF.out (by decide) (by decide) HP.out (Below.refl _ _) (.int .i64 bad3) (rfl))
    · refine opAt rfl ?_
      intro l us wx hJ hp hl K hK
      have HJ := Lib.hid hJ; have HP := Lib.hid hp; have HLI := Lib.hid hl; have HF := Lib.hid (hJ.live hl (by decide)); have HBX := Lib.hid (hJ.below HF.out); have HK := hK
      clear hJ hp hl hK
      simp only [At, List.foldl_cons, List.foldl_nil, List.setIfInBounds_toArray, List.set_cons_zero, List.set_cons_succ] at HK
      have HK := Lib.hid HK
      have h66 : us 66 = .bool true := HJ.out.val HF.out 1 (by decide) (HP.out 1 (by kernel_rfl))
      simp only [At, List.foldl_cons, List.foldl_nil, List.setIfInBounds_toArray, List.set_cons_zero, List.set_cons_succ]
      refine ⟨?_⟩
      go_simp
      exact HK.out (upd (upd us 66 (.bool true)) 71 (.func (.func 54) #[] #[.pointer (some ⟨w.heap.size, 0, none⟩)])) wx (by rw [upd_self h66]; exact HJ.out.go HSTL (by kernel_rfl) 6 HF.out (by decide) (by decide) HP.out (Below.refl _ _) (.func (.func 54) #[] #[.pointer (some ⟨w.heap.size, 0, none⟩)]) (rfl))
    · refine opAt rfl ?_
      intro l us wx hJ hp hl K hK
      have HJ := Lib.hid hJ; have HP := Lib.hid hp; have HLI := Lib.hid hl; have HF := Lib.hid (hJ.live hl (by decide)); have HBX := Lib.hid (hJ.below HF.out); have HK := hK
      clear hJ hp hl hK
      simp only [At, List.foldl_cons, List.foldl_nil, List.setIfInBounds_toArray, List.set_cons_zero, List.set_cons_succ] at HK
      have HK := Lib.hid HK
      have h66 : us 66 = .bool true := HJ.out.val HF.out 1 (by decide) (HP.out 1 (by kernel_rfl))
      have h70 : us 70 = .int .i64 bad3 := HJ.out.val HF.out 5 (by decide) (HP.out 5 (by kernel_rfl))
      have h71 : us 71 = .func (.func 54) #[] #[.pointer (some ⟨w.heap.size, 0, none⟩)] := HJ.out.val HF.out 6 (by decide) (HP.out 6 (by kernel_rfl))
      have c0 := keep_cell HBX.out c0
      have c1 := keep_cell HBX.out c1
      simp only [At, List.foldl_cons, List.foldl_nil, List.setIfInBounds_toArray, List.set_cons_zero, List.set_cons_succ]
      refine ⟨?_⟩
      go_simp
      go_wp2_with ((go_at_call 22; (with_reducible refine (HNONE3.out _ c0 c1).mono ?_); rintro en w9 ⟨rfl, hbz⟩; have HC := Lib.hid hbz; clear hbz))
      exact HK.out (upd (upd (upd (upd us 66 (.bool true)) 70 (.int .i64 bad3)) 71 (.func (.func 54) #[] #[.pointer (some ⟨w.heap.size, 0, none⟩)])) 72 (.agg #[.int .i64 a3, .int .i64 b3, .bool k3])) w9 (by rw [upd_self h66, upd_self h70, upd_self h71]; exact HJ.out.go HSTL (by kernel_rfl) 7 HF.out (by decide) (by decide) HP.out HC.out (.agg #[.int .i64 a3, .int .i64 b3, .bool k3]) (rfl))
    · refine opAt rfl ?_
      intro l us wx hJ hp hl K hK
      have HJ := Lib.hid hJ; have HP := Lib.hid hp; have HLI := Lib.hid hl; have HF := Lib.hid (hJ.live hl (by decide)); have HBX := Lib.hid (hJ.below HF.out); have HK := hK
      clear hJ hp hl hK
      simp only [At, List.foldl_cons, List.foldl_nil, List.setIfInBounds_toArray, List.set_cons_zero, List.set_cons_succ] at HK
      have HK := Lib.hid HK
      have h66 : us 66 = .bool true := HJ.out.val HF.out 1 (by decide) (HP.out 1 (by kernel_rfl))
      have h67 : us 67 = .agg #[.int .i64 x3, .int .i64 y3] := HJ.out.val HF.out 2 (by decide) (HP.out 2 (by kernel_rfl))
      have h68 : us 68 = .int .i64 e3 := HJ.out.val HF.out 3 (by decide) (HP.out 3 (by kernel_rfl))
      have h69 : us 69 = .int .i64 bad3 := HJ.out.val HF.out 4 (by decide) (HP.out 4 (by kernel_rfl))
      have h72 : us 72 = .agg #[.int .i64 a3, .int .i64 b3, .bool k3] := HJ.out.val HF.out 7 (by decide) (HP.out 7 (by kernel_rfl))
      simp only [At, List.foldl_cons, List.foldl_nil, List.setIfInBounds_toArray, List.set_cons_zero, List.set_cons_succ]
      refine ⟨?_⟩
      go_simp
      go_wp2_with ((go_at_call 21; (with_reducible refine (HAG3.out _).mono ?_); rintro en w9 ⟨rfl, hbz⟩; have HC := Lib.hid hbz; clear hbz))
      exact HK.out (upd (upd (upd (upd (upd (upd us 66 (.bool true)) 67 (.agg #[.int .i64 x3, .int .i64 y3])) 68 (.int .i64 e3)) 69 (.int .i64 bad3)) 72 (.agg #[.int .i64 a3, .int .i64 b3, .bool k3])) 73 (.bool true)) w9 (by rw [upd_self h66, upd_self h67, upd_self h68, upd_self h69, upd_self h72]; exact HJ.out.go HSTL (by kernel_rfl) 8 HF.out (by decide) (by decide) HP.out HC.out (.bool true) (rfl))
    · refine opAt rfl ?_
      intro l us wx hJ hp hl K hK
      have HJ := Lib.hid hJ; have HP := Lib.hid hp; have HLI := Lib.hid hl; have HF := Lib.hid (hJ.live hl (by decide)); have HBX := Lib.hid (hJ.below HF.out); have HK := hK
      clear hJ hp hl hK
      simp only [At, List.foldl_cons, List.foldl_nil, List.setIfInBounds_toArray, List.set_cons_zero, List.set_cons_succ] at HK
      have HK := Lib.hid HK
      have h66 : us 66 = .bool true := HJ.out.val HF.out 1 (by decide) (HP.out 1 (by kernel_rfl))
      have h73 : us 73 = .bool true := HJ.out.val HF.out 8 (by decide) (HP.out 8 (by kernel_rfl))
      simp only [At, List.foldl_cons, List.foldl_nil, List.setIfInBounds_toArray, List.set_cons_zero, List.set_cons_succ]
      refine ⟨?_⟩
      go_simp
      exact HK.out (upd (upd (upd us 66 (.bool true)) 73 (.bool true)) 74 (.bool true)) wx (by rw [upd_self h66, upd_self h73]; exact HJ.out.go HSTL (by kernel_rfl) 9 HF.out (by decide) (by decide) HP.out (Below.refl _ _) (.bool true) (rfl))
    · refine opAt rfl ?_
      intro l us wx hJ hp hl K hK
      have HJ := Lib.hid hJ; have HP := Lib.hid hp; have HLI := Lib.hid hl; have HF := Lib.hid (hJ.live hl (by decide)); have HBX := Lib.hid (hJ.below HF.out); have HK := hK
      clear hJ hp hl hK
      simp only [At, List.foldl_cons, List.foldl_nil, List.setIfInBounds_toArray, List.set_cons_zero, List.set_cons_succ] at HK
      have HK := Lib.hid HK
      have h74 : us 74 = .bool true := HJ.out.val HF.out 9 (by decide) (HP.out 9 (by kernel_rfl))
      simp only [At, List.foldl_cons, List.foldl_nil, List.setIfInBounds_toArray, List.set_cons_zero, List.set_cons_succ]
      refine ⟨?_⟩
      go_simp
      exact HK.out (upd (upd us 74 (.bool true)) 4 (.bool true)) wx (by rw [upd_self h74]; exact HJ.out.go HSTL (by kernel_rfl) 10 HF.out (by decide) (by decide) HP.out (Below.refl _ _) (.bool true) (rfl))
  obtain ⟨rfl, HBC⟩ := hcut
  go_wp2_with fail
  go_ret
  exact ⟨rfl, belowT HBEL.out (belowT HBZ.out HBC.out)⟩
end Go.Proofs.YtekbfommnmikbaaGreatDoor
/- A list of reals as a parameter: opened; arguments read behind the call as they did before. -/
namespace Go.Proofs.YtekbfommnmikbaaGreatDoor
set_option linter.unusedVariables false
set_option linter.unusedSimpArgs false
open Go.ChangeShapes Go.WideShapes Go.ChangeAt Go.WideMaps Go.WideElems Go.RowKit

/-- Arguments that lie below the heap's old size read as they did. -/
theorem args_stay {H : Type} {enc : TypeId × Value → H} (hl : laidOutB Tryz.prog = true) {W W' : World} (hb : Below W.heap.size W W') :
    ∀ {ts : List TypeId} {vs : List Value} {ds : List (DataW H)} {ps : List MemPlace}, (∀ t ∈ ts, Tryz.prog.readableRec t = true ∧ t < Tryz.prog.types.size) → DataW.TrodAll enc Tryz.prog W 0 (fun _ => true) true ts vs ds ps → DataW.TrodAll enc Tryz.prog W' 0 (fun b => decide (b < W.heap.size)) true ts vs ds ps
  | [], vs, ds, ps, _, h => by
    obtain ⟨rfl, rfl, rfl⟩ := trodAll_nil h
    exact trodAll_mk0
  | t :: ts, vs, ds, ps, ht, h => by
    have hlt := DataW.TrodAll.lt h
    obtain ⟨v, vs', d, ds', p, q, rfl, rfl, rfl, ⟨n, h1⟩, h2⟩ := trodAll_cons h
    have hp : ∀ x ∈ p, x.block < W.heap.size := fun x hx => hlt x (List.mem_append.2 (.inl hx))
    obtain ⟨r1, r2⟩ := ht t (List.mem_cons_self ..)
    exact trodAll_cons_mk ⟨n, DataW.trod_stays (kids_book hl r1) (book_sized r1) (fun h => by cases h) ⟨r2, book_self t⟩ h1 (fun x hx => hb.same (hp x hx)) (fun x hx => by simpa using hp x hx)⟩
      (args_stay hl hb (fun u hu => ht u (List.mem_cons_of_mem _ hu)) h2)

/-- The int of a value. -/
def iv : Value → Int
  | .int _ z => z
  | _ => 0
set_option maxRecDepth 100000 in
/-- A list of reals. -/
theorem open_reals {H : Type} {enc : TypeId × Value → H} {w w2 : World} {r : _} {base b2 : Nat} {sp : Nat → Bool} {held : Bool} {v : Value} {d : DataW H} {p : List MemPlace} (hok : Value.okWide Tryz.prog w r base 45 v) (h : DataW.Trod enc Tryz.prog w2 b2 sp held 45 v d p) :
    ∃ A c l, v = .slice A l.length c ∧ Reals w2 A l ∧ In64 l ∧ l.length ≤ 9223372036854775807 := by
  obtain ⟨a, len, cap, rfl⟩ := okWide_slice Tryz.underlying45 hok
  obtain ⟨fuel, hf⟩ := h
  have hf' : DataW.trod enc Tryz.prog w2 b2 sp held fuel 45 [.slice a len cap] = some (d, p) := hf
  rcases Go.Deep.open_slice_pairs Tryz.underlying45 Tryz.underlying23 cells_real rfl rfl cells_int cells_int hf' with ⟨e, -⟩ | ⟨a', len', cap', m, n, V0, V1, D0, D1, P0, P1, e, hb, hl, hm, hmm, hx, hall⟩
  · cases e
    refine ⟨none, 0, [], rfl, fun j hj => ?_, fun q hq => ?_, Nat.zero_le _⟩
    · exact absurd hj (Nat.not_lt_zero _)
    · exact absurd hq List.not_mem_nil
  · cases e
    have hlm : len ≤ m := by rw [hmm]; split <;> omega
    have hcell : ∀ i, i < len → w2.cell? (a'.add (i * 2)) = some (.int .i64 (iv (V0 i))) ∧ w2.cell? ((a'.add (i * 2)).add 1) = some (.int .i64 (iv (V1 i))) ∧ -9223372036854775808 ≤ iv (V0 i) ∧ iv (V0 i) ≤ 9223372036854775807 := by
      intro i hi
      obtain ⟨h1, h2, h3, h4⟩ := hall i (by omega)
      obtain ⟨z0, e0, -, wz⟩ := DataW.trod_int Tryz.underlying3 h3
      obtain ⟨z1, e1, -, -⟩ := DataW.trod_int Tryz.underlying3 h4
      cases e0' : V0 i <;> rw [e0'] at e0 <;> simp at e0
      cases e1' : V1 i <;> rw [e1'] at e1 <;> simp at e1
      obtain ⟨rfl, rfl⟩ := e0
      obtain ⟨rfl, rfl⟩ := e1
      have hw := bounds_i64 wz
      exact ⟨by rw [h1, e0']; rfl, by rw [Go.Deep.add_add, h2, e1']; rfl, hw.1, hw.2⟩
    refine ⟨some a', cap, (List.range len).map fun i => (iv (V0 i), iv (V1 i)), by simp, ?_, ?_, ?_⟩
    · intro j hj
      have hj' : j < len := by simpa using hj
      obtain ⟨h1, h2, -⟩ := hcell j hj'
      refine ⟨a', rfl, ?_, ?_⟩
      · rw [h1]; simp [hj']
      · rw [h2]; simp [hj']
    · intro q hq
      obtain ⟨i, hi, rfl⟩ := List.mem_map.1 hq
      obtain ⟨-, -, h3, h4⟩ := hcell i (List.mem_range.1 hi)
      exact ⟨h3, h4⟩
    · simp
      unfold maxLen at hm
      omega
end Go.Proofs.YtekbfommnmikbaaGreatDoor
