/- Integers of any size: made, negative, signum, mul, add. -/
import Derived.Test.YtbjgpbdkofadiaaGreatDoorParts3
namespace Go.Proofs.YtbjgpbdkofadiaaGreatDoor
set_option linter.unusedVariables false
set_option linter.unusedSimpArgs false
open Go.RowKit
attribute [local go_sem] max2_int min2_int max_two min_two

/-- v is the whole z: its sign, and the parts of its magnitude. -/
def Wh (w : World) (v : Value) (z : Int) : Prop := ∃ p, v = .agg #[.bool (decide (z < 0)), p] ∧ Dg 1000000000 w p z.natAbs

theorem Wh.below {w w' : World} {v : Value} {z : Int} (h : Wh w v z) (hb : Below w.heap.size w w') : Wh w' v z := by
  obtain ⟨p, e, hp⟩ := h
  exact ⟨p, e, hp.below hb⟩

theorem Wh.form {w : World} {v : Value} {z : Int} (h : Wh w v z) : ∃ b A n c, v = .agg #[.bool b, .slice A n c] := by
  obtain ⟨p, rfl, A, c, rfl, _⟩ := h
  exact ⟨_, _, _, _, rfl⟩

/-- A call returns the whole z; what was there is as it was. -/
def WhP (z : Int) (w : World) (e : Ending) (w' : World) : Prop := ∃ v, e = .returned v ∧ Wh w' v z ∧ Below w.heap.size w w'

theorem whP_mk {z : Int} {w W : World} {b : Bool} {p : Value} (hz : b = decide (z < 0)) (hd : Dg 1000000000 W p z.natAbs) (hb : Below w.heap.size w W) : WhP z w (.returned (.agg #[.bool b, p])) W :=
  ⟨_, rfl, ⟨p, by rw [hz], hd⟩, hb⟩

/-- What made returns: the very parts, and the sign, but for 0. -/
def MadeP (b : Bool) (n : Nat) (v : Value) (w : World) (e : Ending) (w' : World) : Prop := e = .returned (.agg #[.bool (b && decide (0 < n)), v]) ∧ Below w.heap.size w w'

set_option maxHeartbeats 1000000 in
theorem made_c (b : Bool) (v : Value) (n : Nat) (w : World) (h : Dg 1000000000 w v n) :
    Calls Tryz.prog 60 #[.bool b, v] w (MadeP b n v w) := by
  have H := Lib.hid h
  obtain ⟨A, c, rfl, hlc, hcm, hr⟩ := h
  have hl : (dg 1000000000 n).length = 0 ↔ n = 0 := by rw [List.length_eq_zero_iff]; exact dg_eq_nil (by decide)
  generalize hL : (dg 1000000000 n).length = L at *
  clear hr
  have HL := Lib.hid hL
  clear hL
  cases b with
  | false =>
    go_enter Tryz.func60, Tryz.ntmps60
    go_wp2
    refine bodyPost_ret (v := .agg #[.bool false, .slice A L c]) (by simp [results, Tryz.results60, go_sem]) rfl ?_
    exact ⟨by simp, (by repeat (first | exact Below.refl _ _ | exact HB.out | (refine Below.alloc ?_ (by first | (simp; done) | (simp; omega)) _) | (refine Below.setCell ?_ (by first | (simp; done) | (simp; omega)) _) | refine Below.drew ?_ | refine below_drewN ?_ _))⟩
  | true =>
    by_cases h0 : 0 < L
    · go_enter Tryz.func60, Tryz.ntmps60
      go_wp2
      refine bodyPost_ret (v := .agg #[.bool true, .slice A L c]) (by simp [results, Tryz.results60, go_sem]) rfl ?_
      exact ⟨by have : 0 < n := by omega
                simp [this], (by repeat (first | exact Below.refl _ _ | exact HB.out | (refine Below.alloc ?_ (by first | (simp; done) | (simp; omega)) _) | (refine Below.setCell ?_ (by first | (simp; done) | (simp; omega)) _) | refine Below.drew ?_ | refine below_drewN ?_ _))⟩
    · go_enter Tryz.func60, Tryz.ntmps60
      go_wp2
      refine bodyPost_ret (v := .agg #[.bool false, .slice A L c]) (by simp [results, Tryz.results60, go_sem]) rfl ?_
      exact ⟨by have : ¬ 0 < n := by omega
                simp [this], (by repeat (first | exact Below.refl _ _ | exact HB.out | (refine Below.alloc ?_ (by first | (simp; done) | (simp; omega)) _) | (refine Below.setCell ?_ (by first | (simp; done) | (simp; omega)) _) | refine Below.drew ?_ | refine below_drewN ?_ _))⟩

theorem Dg.form {b : Nat} {w : World} {v : Value} {n : Nat} (h : Dg b w v n) : ∃ A l c, v = .slice A l c := by
  obtain ⟨A, c, rfl, _⟩ := h
  exact ⟨_, _, _, rfl⟩

theorem mul_sign (x y : Int) : ((!decide (x < 0) == decide (y < 0)) && decide (0 < x.natAbs * y.natAbs)) = decide (x * y < 0) := by
  rcases Int.lt_trichotomy x 0 with hx | hx | hx <;> rcases Int.lt_trichotomy y 0 with hy | hy | hy
  · have := Int.mul_pos_of_neg_of_neg hx hy
    simp [hx, hy]; omega
  · simp [hy]
  · have := Int.mul_neg_of_neg_of_pos hx hy
    have h0 : 0 < x.natAbs * y.natAbs := Nat.mul_pos (by omega) (by omega)
    have hy' : ¬ y < 0 := by omega
    simp [hx, hy', this, h0]
  · simp [hx]
  · simp [hx]
  · simp [hx]
  · have := Int.mul_neg_of_pos_of_neg hx hy
    have h0 : 0 < x.natAbs * y.natAbs := Nat.mul_pos (by omega) (by omega)
    have hx' : ¬ x < 0 := by omega
    simp [hx', hy, this, h0]
  · simp [hy]
  · have := Int.mul_pos hx hy
    have hx' : ¬ x < 0 := by omega
    have hy' : ¬ y < 0 := by omega
    simp [hx', hy']; omega

/-- v is the whole z, its parts lie from block k on (or nowhere). -/
def WhN (k : Nat) (w : World) (v : Value) (z : Int) : Prop := ∃ p, v = .agg #[.bool (decide (z < 0)), p] ∧ Dg 1000000000 w p z.natAbs ∧ FromB k p
theorem WhN.wh {k : Nat} {w : World} {v : Value} {z : Int} (h : WhN k w v z) : Wh w v z := by
  obtain ⟨p, e, h1, _⟩ := h
  exact ⟨p, e, h1⟩
theorem WhN.below {k : Nat} {w w' : World} {v : Value} {z : Int} (h : WhN k w v z) (hb : Below w.heap.size w w') : WhN k w' v z := by
  obtain ⟨p, e, h1, h2⟩ := h
  exact ⟨p, e, h1.below hb, h2⟩
theorem WhN.set {k : Nat} {w : World} {v : Value} {z : Int} {a : Addr} (h : WhN k w v z) (hk : a.block < k) (x : Value) : WhN k (w.setCell a x) v z := by
  obtain ⟨p, e, h1, h2⟩ := h
  exact ⟨p, e, h1.set h2 hk x, h2⟩
theorem WhN.mono {k k' : Nat} {w : World} {v : Value} {z : Int} (h : WhN k w v z) (hk : k' ≤ k) : WhN k' w v z := by
  obtain ⟨p, e, h1, h2⟩ := h
  exact ⟨p, e, h1, h2.mono hk⟩
/-- A call returns the whole z, newly made. -/
def WhPN (z : Int) (w : World) (e : Ending) (w' : World) : Prop := ∃ v, e = .returned v ∧ WhN w.heap.size w' v z ∧ Below w.heap.size w w'
theorem whPN_mk {z : Int} {w W : World} {b : Bool} {p : Value} (hz : b = decide (z < 0)) (hd : Dg 1000000000 W p z.natAbs) (hf : FromB w.heap.size p) (hb : Below w.heap.size w W) : WhPN z w (.returned (.agg #[.bool b, p])) W :=
  ⟨_, rfl, ⟨p, by rw [hz], hd, hf⟩, hb⟩

set_option maxHeartbeats 2000000 in
set_option maxRecDepth 100000 in
theorem mulN_c (v1 v2 : Value) (x y : Int) (w : World) (h1 : Wh w v1 x) (h2 : Wh w v2 y) (hm : (dg 1000000000 x.natAbs).length ≤ 1000000) (hn : (dg 1000000000 y.natAbs).length ≤ 1000000) :
    Calls Tryz.prog 57 #[v1, v2] w (WhPN (x * y) w) := by
  obtain ⟨p, rfl, hp⟩ := h1
  obtain ⟨q, rfl, hq⟩ := h2
  have HP := Lib.hid hp
  have HQ := Lib.hid hq
  clear hp hq
  generalize hbx : decide (x < 0) = bx
  generalize hby : decide (y < 0) = by_
  have HBX := Lib.hid (And.intro hbx hby)
  clear hbx hby
  go_enter Tryz.func57, Tryz.ntmps57
  go_wp2_with fail
  obtain ⟨W, hW, k0, k1, k2, f0, f1, f2, hbel, hsz⟩ := boxes3 w #[.bool bx, p] #[.bool by_, q] #[.bool false, .slice none 0 0] 72 72 72; rw [hW]; have c00 := k0 0; have c01 := k0 1; have c10 := k1 0; have c11 := k1 1; have c20 := k2 0; have c21 := k2 1; have f20 := f2 0; have f21 := f2 1; simp at c00 c01 c10 c11 c20 c21; have s20 : (W.cell? ⟨w.heap.size + 1 + 1, 0, none⟩).isSome = true := by rw [c20]; rfl
  have s21 : (W.cell? ⟨w.heap.size + 1 + 1, 1, none⟩).isSome = true := by rw [c21]; rfl
  clear k0 k1 k2 f0 f1 f2 c20 c21 hsz hW
  go_region_held3 (fun w' => w'.cell? ⟨w.heap.size, 0, none⟩ = some (.bool bx) ∧ w'.cell? ⟨w.heap.size, 1, none⟩ = some p ∧ w'.cell? ⟨w.heap.size + 1, 0, none⟩ = some (.bool by_) ∧ w'.cell? ⟨w.heap.size + 1, 1, none⟩ = some q ∧ (w'.cell? ⟨w.heap.size + 1 + 1, 0, none⟩).isSome = true ∧ (w'.cell? ⟨w.heap.size + 1 + 1, 1, none⟩).isSome = true ∧ w'.frozen? ⟨w.heap.size + 1 + 1, 0, none⟩ = false ∧ w'.frozen? ⟨w.heap.size + 1 + 1, 1, none⟩ = false ∧ Bel w.heap.size w w')
    ((go_split_ands; refine ⟨?_, ?_, ?_, ?_, ?_, ?_, ?_, ?_, ?_⟩ <;> (first | assumption | exact keep_cell hbz (by assumption) | exact keep_some hbz (by assumption) | exact keep_free hbz (by assumption) (by assumption) | exact keep_free' hbz (by assumption) (by assumption) | exact Bel.call (by assumption) hbz | exact Bel.drew (by assumption) | ((repeat (first | assumption | (refine Bel.set ?_ _ (by first | (simp; done) | (simp; omega))) | refine Bel.drew ?_)); done) | exact some_set (by assumption) | exact some_set (some_set (by assumption)) | (refine set_far _ (by first | (simp; done) | (simp; omega)) (set_far _ (by first | (simp; done) | (simp; omega)) (by assumption))) | (refine set_far _ (by first | (simp; done) | (simp; omega)) (by assumption)) | (simp only [World.frozen?_setCell]; assumption) | (simp [*]; done))))
    (first
      | (go_at_call 108; refine (times_c p q x.natAbs y.natAbs _ ?_ ?_ hm hn).mono ?_; (go_split_ands; exact HP.out.below (Bel.to (by assumption))); (go_split_ands; exact HQ.out.below (Bel.to (by assumption))); rintro e w' ⟨u, rfl, hu, hfu, hbz⟩; go_must (have HF := Lib.hid (hfu.mono (Nat.succ_le_of_lt (lt_of_some (a := ⟨w.heap.size + 1 + 1, 0, none⟩) (by go_split_ands; assumption)))); have HU := Lib.hid hu; clear hu hfu))
      | (go_at_call 60; obtain ⟨Az_, nz_, cz_, hform⟩ := HU.out.form; subst hform; refine (made_c _ _ (x.natAbs * y.natAbs) _ HU.out).mono ?_; rintro e w' ⟨rfl, hbz⟩; have HV := Lib.hid (HU.out.below hbz); clear HU)
      | (go_split_ands; obtain ⟨zu0, hzu0⟩ := Option.isSome_iff_exists.1 (show (World.cell? _ ⟨w.heap.size + 1 + 1, 0, none⟩).isSome = true by assumption); obtain ⟨zu1, hzu1⟩ := Option.isSome_iff_exists.1 (show (World.cell? _ ⟨w.heap.size + 1 + 1, 1, none⟩).isSome = true by assumption); go_simp))
  go_wp2
  go_split_ands
  refine bodyPost_ret (v := .agg #[.bool (!bx == by_ && decide (0 < x.natAbs * y.natAbs)), .slice Az_ nz_ cz_]) (by simp [results, Tryz.results57, go_sem, hzu0, hzu1]) rfl ?_
  obtain ⟨h1, h2⟩ := HBX.out
  refine whPN_mk ?_ ?_ (HF.out.mono (by omega)) (Bel.to (by assumption))
  · subst h1 h2; exact mul_sign x y
  · rw [Int.natAbs_mul]; exact Dg.set (Dg.set HV.out HF.out (by simp) _) HF.out (by simp) _

theorem mul_c (v1 v2 : Value) (x y : Int) (w : World) (h1 : Wh w v1 x) (h2 : Wh w v2 y) (hm : (dg 1000000000 x.natAbs).length ≤ 1000000) (hn : (dg 1000000000 y.natAbs).length ≤ 1000000) :
    Calls Tryz.prog 57 #[v1, v2] w (WhP (x * y) w) := by
  refine (mulN_c v1 v2 x y w h1 h2 hm hn).mono ?_
  rintro e w' ⟨v, rfl, h, hb⟩
  exact ⟨v, rfl, h.wh, hb⟩

end Go.Proofs.YtbjgpbdkofadiaaGreatDoor
