/- Integers of any size: negative, signum, add. -/
import Derived.Test.YtbjgpbdkofadiaaGreatDoorWhole1
import Derived.Test.YtbjgpbdkofadiaaGreatDoorOver
namespace Go.Proofs.YtbjgpbdkofadiaaGreatDoor
set_option linter.unusedVariables false
set_option linter.unusedSimpArgs false
open Go.RowKit
attribute [local go_sem] max2_int min2_int max_two min_two

theorem add_sign_same {x y : Int} {bx by_ : Bool} (h1 : decide (x < 0) = bx) (h2 : decide (y < 0) = by_) (h3 : bx = by_) : x.natAbs + y.natAbs = (x + y).natAbs ∧ (bx && decide (0 < x.natAbs + y.natAbs)) = decide (x + y < 0) := by
  subst h3
  have h4 : (x < 0) ↔ (y < 0) := by rw [← decide_eq_decide, h1, h2]
  subst h1
  by_cases hx : x < 0
  · have hy := h4.1 hx
    refine ⟨by omega, ?_⟩
    rw [decide_eq_true hx, decide_eq_true (by omega : 0 < x.natAbs + y.natAbs), decide_eq_true (by omega : x + y < 0)]; rfl
  · have hy : ¬ y < 0 := fun h => hx (h4.2 h)
    refine ⟨by omega, ?_⟩
    rw [decide_eq_false hx, decide_eq_false (by omega : ¬ x + y < 0)]; rfl
theorem add_sign_ge {x y : Int} {bx by_ : Bool} (h1 : decide (x < 0) = bx) (h2 : decide (y < 0) = by_) (h3 : ¬ bx = by_) (h : y.natAbs ≤ x.natAbs) : x.natAbs - y.natAbs = (x + y).natAbs ∧ (bx && decide (0 < x.natAbs - y.natAbs)) = decide (x + y < 0) := by
  have h4 : ¬ ((x < 0) ↔ (y < 0)) := by rw [← decide_eq_decide, h1, h2]; exact h3
  subst h1
  by_cases hx : x < 0
  · have hy : ¬ y < 0 := fun k => h4 ⟨fun _ => k, fun _ => hx⟩
    refine ⟨by omega, ?_⟩
    rw [decide_eq_true hx, Bool.true_and, decide_eq_decide]; omega
  · have hy : y < 0 := by
      rcases Int.lt_or_le y 0 with k | k
      · exact k
      · exact absurd ⟨fun a => absurd a hx, fun a => absurd a (by omega)⟩ h4
    refine ⟨by omega, ?_⟩
    rw [decide_eq_false hx, decide_eq_false (by omega : ¬ x + y < 0)]; rfl
theorem add_sign_lt {x y : Int} {bx by_ : Bool} (h1 : decide (x < 0) = bx) (h2 : decide (y < 0) = by_) (h3 : ¬ bx = by_) (h : ¬ y.natAbs ≤ x.natAbs) : y.natAbs - x.natAbs = (x + y).natAbs ∧ (by_ && decide (0 < y.natAbs - x.natAbs)) = decide (x + y < 0) := by
  rw [Int.add_comm x y]
  exact add_sign_ge h2 h1 (fun e => h3 e.symm) (by omega)

set_option maxHeartbeats 2000000 in
set_option maxRecDepth 100000 in
theorem add_same (v1 v2 : Value) (x y : Int) (w : World) (h1 : Wh w v1 x) (h2 : Wh w v2 y) (hm : (dg 1000000000 x.natAbs).length ≤ 1000000) (hn : (dg 1000000000 y.natAbs).length ≤ 1000000) (hxy : decide (x < 0) = decide (y < 0)) :
    Calls Tryz.prog 92 #[v1, v2] w (WhPN (x + y) w) := by
  obtain ⟨p, rfl, hp⟩ := h1
  obtain ⟨q, rfl, hq⟩ := h2
  have HP := Lib.hid hp
  have HQ := Lib.hid hq
  clear hp hq
  generalize hbx : decide (x < 0) = bx at *
  generalize hby : decide (y < 0) = by_ at *
  have HBX := Lib.hid (And.intro hbx (And.intro hby hxy))
  have hbb : (bx == by_) = true := by simp [hxy]
  clear hbx hby hxy
  go_enter Tryz.func92, Tryz.ntmps92
  go_wp2_with fail
  obtain ⟨W, hW, k0, k1, k2, f0, f1, f2, hbel, hsz⟩ := boxes3 w #[.bool bx, p] #[.bool by_, q] #[.bool false, .slice none 0 0] 72 72 72; rw [hW]; have c00 := k0 0; have c01 := k0 1; have c10 := k1 0; have c11 := k1 1; have c20 := k2 0; have c21 := k2 1; have f20 := f2 0; have f21 := f2 1; simp at c00 c01 c10 c11 c20 c21; have s20 : (W.cell? ⟨w.heap.size + 1 + 1, 0, none⟩).isSome = true := by rw [c20]; rfl
  have s21 : (W.cell? ⟨w.heap.size + 1 + 1, 1, none⟩).isSome = true := by rw [c21]; rfl
  clear k0 k1 k2 f0 f1 f2 c20 c21 hsz hW
  go_wp2_with fail
  go_region_held3 (fun w' => w'.cell? ⟨w.heap.size, 0, none⟩ = some (.bool bx) ∧ w'.cell? ⟨w.heap.size, 1, none⟩ = some p ∧ w'.cell? ⟨w.heap.size + 1, 0, none⟩ = some (.bool by_) ∧ w'.cell? ⟨w.heap.size + 1, 1, none⟩ = some q ∧ (w'.cell? ⟨w.heap.size + 1 + 1, 0, none⟩).isSome = true ∧ (w'.cell? ⟨w.heap.size + 1 + 1, 1, none⟩).isSome = true ∧ w'.frozen? ⟨w.heap.size + 1 + 1, 0, none⟩ = false ∧ w'.frozen? ⟨w.heap.size + 1 + 1, 1, none⟩ = false ∧ Bel w.heap.size w w')
    ((go_split_ands; refine ⟨?_, ?_, ?_, ?_, ?_, ?_, ?_, ?_, ?_⟩ <;> (first | assumption | exact keep_cell hbz (by assumption) | exact keep_some hbz (by assumption) | exact keep_free hbz (by assumption) (by assumption) | exact keep_free' hbz (by assumption) (by assumption) | exact Bel.call (by assumption) hbz | exact Bel.drew (by assumption) | ((repeat (first | assumption | (refine Bel.set ?_ _ (by first | (simp; done) | (simp; omega))) | refine Bel.drew ?_)); done) | exact some_set (by assumption) | exact some_set (some_set (by assumption)) | (refine set_far _ (by first | (simp; done) | (simp; omega)) (set_far _ (by first | (simp; done) | (simp; omega)) (by assumption))) | (refine set_far _ (by first | (simp; done) | (simp; omega)) (by assumption)) | (simp only [World.frozen?_setCell]; assumption) | (simp [*]; done))))
    (first
      | (go_at_call 76; refine (plus_c p q x.natAbs y.natAbs _ ?_ ?_ hm hn).mono ?_; (go_split_ands; exact HP.out.below (Bel.to (by assumption))); (go_split_ands; exact HQ.out.below (Bel.to (by assumption))); rintro e w' ⟨u, rfl, hu, hfu, hbz⟩; go_must (have HF := Lib.hid (hfu.mono (Nat.succ_le_of_lt (lt_of_some (a := ⟨w.heap.size + 1 + 1, 0, none⟩) (by go_split_ands; assumption)))); have HU := Lib.hid hu; clear hu hfu))
      | (go_at_call 60; obtain ⟨Az_, nz_, cz_, hform⟩ := HU.out.form; subst hform; refine (made_c _ _ (x.natAbs + y.natAbs) _ HU.out).mono ?_; rintro e w' ⟨rfl, hbz⟩; have HV := Lib.hid (HU.out.below hbz); clear HU)
      | (go_split_ands; obtain ⟨zu0, hzu0⟩ := Option.isSome_iff_exists.1 (show (World.cell? _ ⟨w.heap.size + 1 + 1, 0, none⟩).isSome = true by assumption); obtain ⟨zu1, hzu1⟩ := Option.isSome_iff_exists.1 (show (World.cell? _ ⟨w.heap.size + 1 + 1, 1, none⟩).isSome = true by assumption); go_simp))
  go_wp2
  go_split_ands
  refine bodyPost_ret (v := .agg #[.bool (bx && decide (0 < x.natAbs + y.natAbs)), .slice Az_ nz_ cz_]) (by simp [results, Tryz.results92, go_sem, hzu0, hzu1]) rfl ?_
  obtain ⟨h1, h2, h3⟩ := HBX.out
  refine whPN_mk ?_ ?_ (HF.out.mono (by omega)) (Bel.to (by assumption))
  · exact (add_sign_same h1 h2 h3).2
  · rw [← (add_sign_same h1 h2 h3).1]; exact Dg.set (Dg.set HV.out HF.out (by simp) _) HF.out (by simp) _

set_option maxHeartbeats 4000000 in
set_option maxRecDepth 100000 in
theorem add_diff (v1 v2 : Value) (x y : Int) (w : World) (h1 : Wh w v1 x) (h2 : Wh w v2 y) (hm : (dg 1000000000 x.natAbs).length ≤ 1000000) (hn : (dg 1000000000 y.natAbs).length ≤ 1000000) (hxy : ¬ decide (x < 0) = decide (y < 0)) :
    Calls Tryz.prog 92 #[v1, v2] w (WhPN (x + y) w) := by
  obtain ⟨p, rfl, hp⟩ := h1
  obtain ⟨q, rfl, hq⟩ := h2
  have HP := Lib.hid hp
  have HQ := Lib.hid hq
  clear hp hq
  generalize hbx : decide (x < 0) = bx at *
  generalize hby : decide (y < 0) = by_ at *
  have HBX := Lib.hid (And.intro hbx (And.intro hby hxy))
  have hbb : (bx == by_) = false := by simp [hxy]
  clear hbx hby hxy
  obtain ⟨s, hs⟩ : ∃ s, sgn ((x.natAbs : Int) - y.natAbs) = s := ⟨_, rfl⟩
  have HSG := Lib.hid hs
  by_cases hle : y.natAbs ≤ x.natAbs
  · have hs0 : 0 ≤ s := by
      rw [← hs]
      rcases Nat.eq_or_lt_of_le hle with h | h
      · rw [h, Int.sub_self]; decide
      · rw [sgn_gt (by omega)]; decide
    have HLE := Lib.hid hle
    clear hs hle
    go_enter Tryz.func92, Tryz.ntmps92
    go_wp2_with fail
    obtain ⟨W, hW, k0, k1, k2, f0, f1, f2, hbel, hsz⟩ := boxes3 w #[.bool bx, p] #[.bool by_, q] #[.bool false, .slice none 0 0] 72 72 72; rw [hW]; have c00 := k0 0; have c01 := k0 1; have c10 := k1 0; have c11 := k1 1; have c20 := k2 0; have c21 := k2 1; have f20 := f2 0; have f21 := f2 1; simp at c00 c01 c10 c11 c20 c21; have s20 : (W.cell? ⟨w.heap.size + 1 + 1, 0, none⟩).isSome = true := by rw [c20]; rfl
    have s21 : (W.cell? ⟨w.heap.size + 1 + 1, 1, none⟩).isSome = true := by rw [c21]; rfl
    clear k0 k1 k2 f0 f1 f2 hsz hW
    go_wp2_with (go_at_call 77; refine (compare_c p q x.natAbs y.natAbs _ (HP.out.below hbel.to) (HQ.out.below hbel.to)).mono ?_; rintro e W2 ⟨he, hbz⟩; rw [HSG.out] at he; subst he; have c00 := keep_cell hbz c00; have c01 := keep_cell hbz c01; have c10 := keep_cell hbz c10; have c11 := keep_cell hbz c11; have f20 := keep_free' hbz c20 f20; have f21 := keep_free' hbz c21 f21; have s20 := keep_some hbz s20; have s21 := keep_some hbz s21; have hbel := hbel.call hbz; clear c20 c21 hbz)
    go_region_held3 (fun w' => w'.cell? ⟨w.heap.size, 0, none⟩ = some (.bool bx) ∧ w'.cell? ⟨w.heap.size, 1, none⟩ = some p ∧ w'.cell? ⟨w.heap.size + 1, 0, none⟩ = some (.bool by_) ∧ w'.cell? ⟨w.heap.size + 1, 1, none⟩ = some q ∧ (w'.cell? ⟨w.heap.size + 1 + 1, 0, none⟩).isSome = true ∧ (w'.cell? ⟨w.heap.size + 1 + 1, 1, none⟩).isSome = true ∧ w'.frozen? ⟨w.heap.size + 1 + 1, 0, none⟩ = false ∧ w'.frozen? ⟨w.heap.size + 1 + 1, 1, none⟩ = false ∧ Bel w.heap.size w w')
      ((go_split_ands; refine ⟨?_, ?_, ?_, ?_, ?_, ?_, ?_, ?_, ?_⟩ <;> (first | assumption | exact keep_cell hbz (by assumption) | exact keep_some hbz (by assumption) | exact keep_free hbz (by assumption) (by assumption) | exact keep_free' hbz (by assumption) (by assumption) | exact Bel.call (by assumption) hbz | exact Bel.drew (by assumption) | ((repeat (first | assumption | (refine Bel.set ?_ _ (by first | (simp; done) | (simp; omega))) | refine Bel.drew ?_)); done) | exact some_set (by assumption) | exact some_set (some_set (by assumption)) | (refine set_far _ (by first | (simp; done) | (simp; omega)) (set_far _ (by first | (simp; done) | (simp; omega)) (by assumption))) | (refine set_far _ (by first | (simp; done) | (simp; omega)) (by assumption)) | (simp only [World.frozen?_setCell]; assumption) | (simp [*]; done))))
      (first
        | (go_at_call 119; refine (minus_c p q x.natAbs y.natAbs _ ?_ ?_ hm HLE.out).mono ?_; (go_split_ands; exact HP.out.below (Bel.to (by assumption))); (go_split_ands; exact HQ.out.below (Bel.to (by assumption))); rintro e w' ⟨u, rfl, hu, hfu, hbz⟩; go_must (have HF := Lib.hid (hfu.mono (Nat.succ_le_of_lt (lt_of_some (a := ⟨w.heap.size + 1 + 1, 0, none⟩) (by go_split_ands; assumption)))); have HU := Lib.hid hu; clear hu hfu))
        | (go_at_call 60; obtain ⟨Az_, nz_, cz_, hform⟩ := HU.out.form; subst hform; refine (made_c _ _ (x.natAbs - y.natAbs) _ HU.out).mono ?_; rintro e w' ⟨rfl, hbz⟩; have HV := Lib.hid (HU.out.below hbz); clear HU)
        | (go_split_ands; obtain ⟨zu0, hzu0⟩ := Option.isSome_iff_exists.1 (show (World.cell? _ ⟨w.heap.size + 1 + 1, 0, none⟩).isSome = true by assumption); obtain ⟨zu1, hzu1⟩ := Option.isSome_iff_exists.1 (show (World.cell? _ ⟨w.heap.size + 1 + 1, 1, none⟩).isSome = true by assumption); go_simp))
    go_wp2
    go_split_ands
    refine bodyPost_ret (v := .agg #[.bool (bx && decide (0 < x.natAbs - y.natAbs)), .slice Az_ nz_ cz_]) (by simp [results, Tryz.results92, go_sem, hzu0, hzu1]) rfl ?_
    obtain ⟨h1, h2, h3⟩ := HBX.out
    refine whPN_mk ?_ ?_ (HF.out.mono (by omega)) (Bel.to (by assumption))
    · exact (add_sign_ge h1 h2 h3 HLE.out).2
    · rw [← (add_sign_ge h1 h2 h3 HLE.out).1]; exact Dg.set (Dg.set HV.out HF.out (by simp) _) HF.out (by simp) _
  · have hs0 : ¬ 0 ≤ s := by rw [← hs, sgn_lt (by omega)]; decide
    have HLE := Lib.hid (Nat.le_of_lt (Nat.lt_of_not_le hle))
    have HNL := Lib.hid hle
    clear hs hle
    go_enter Tryz.func92, Tryz.ntmps92
    go_wp2_with fail
    obtain ⟨W, hW, k0, k1, k2, f0, f1, f2, hbel, hsz⟩ := boxes3 w #[.bool bx, p] #[.bool by_, q] #[.bool false, .slice none 0 0] 72 72 72; rw [hW]; have c00 := k0 0; have c01 := k0 1; have c10 := k1 0; have c11 := k1 1; have c20 := k2 0; have c21 := k2 1; have f20 := f2 0; have f21 := f2 1; simp at c00 c01 c10 c11 c20 c21; have s20 : (W.cell? ⟨w.heap.size + 1 + 1, 0, none⟩).isSome = true := by rw [c20]; rfl
    have s21 : (W.cell? ⟨w.heap.size + 1 + 1, 1, none⟩).isSome = true := by rw [c21]; rfl
    clear k0 k1 k2 f0 f1 f2 hsz hW
    go_wp2_with (go_at_call 77; refine (compare_c p q x.natAbs y.natAbs _ (HP.out.below hbel.to) (HQ.out.below hbel.to)).mono ?_; rintro e W2 ⟨he, hbz⟩; rw [HSG.out] at he; subst he; have c00 := keep_cell hbz c00; have c01 := keep_cell hbz c01; have c10 := keep_cell hbz c10; have c11 := keep_cell hbz c11; have f20 := keep_free' hbz c20 f20; have f21 := keep_free' hbz c21 f21; have s20 := keep_some hbz s20; have s21 := keep_some hbz s21; have hbel := hbel.call hbz; clear c20 c21 hbz)
    go_region_held3 (fun w' => w'.cell? ⟨w.heap.size, 0, none⟩ = some (.bool bx) ∧ w'.cell? ⟨w.heap.size, 1, none⟩ = some p ∧ w'.cell? ⟨w.heap.size + 1, 0, none⟩ = some (.bool by_) ∧ w'.cell? ⟨w.heap.size + 1, 1, none⟩ = some q ∧ (w'.cell? ⟨w.heap.size + 1 + 1, 0, none⟩).isSome = true ∧ (w'.cell? ⟨w.heap.size + 1 + 1, 1, none⟩).isSome = true ∧ w'.frozen? ⟨w.heap.size + 1 + 1, 0, none⟩ = false ∧ w'.frozen? ⟨w.heap.size + 1 + 1, 1, none⟩ = false ∧ Bel w.heap.size w w')
      ((go_split_ands; refine ⟨?_, ?_, ?_, ?_, ?_, ?_, ?_, ?_, ?_⟩ <;> (first | assumption | exact keep_cell hbz (by assumption) | exact keep_some hbz (by assumption) | exact keep_free hbz (by assumption) (by assumption) | exact keep_free' hbz (by assumption) (by assumption) | exact Bel.call (by assumption) hbz | exact Bel.drew (by assumption) | ((repeat (first | assumption | (refine Bel.set ?_ _ (by first | (simp; done) | (simp; omega))) | refine Bel.drew ?_)); done) | exact some_set (by assumption) | exact some_set (some_set (by assumption)) | (refine set_far _ (by first | (simp; done) | (simp; omega)) (set_far _ (by first | (simp; done) | (simp; omega)) (by assumption))) | (refine set_far _ (by first | (simp; done) | (simp; omega)) (by assumption)) | (simp only [World.frozen?_setCell]; assumption) | (simp [*]; done))))
      (first
        | (go_at_call 119; refine (minus_c q p y.natAbs x.natAbs _ ?_ ?_ hn HLE.out).mono ?_; (go_split_ands; exact HQ.out.below (Bel.to (by assumption))); (go_split_ands; exact HP.out.below (Bel.to (by assumption))); rintro e w' ⟨u, rfl, hu, hfu, hbz⟩; go_must (have HF := Lib.hid (hfu.mono (Nat.succ_le_of_lt (lt_of_some (a := ⟨w.heap.size + 1 + 1, 0, none⟩) (by go_split_ands; assumption)))); have HU := Lib.hid hu; clear hu hfu))
        | (go_at_call 60; obtain ⟨Az_, nz_, cz_, hform⟩ := HU.out.form; subst hform; refine (made_c _ _ (y.natAbs - x.natAbs) _ HU.out).mono ?_; rintro e w' ⟨rfl, hbz⟩; have HV := Lib.hid (HU.out.below hbz); clear HU)
        | (go_split_ands; obtain ⟨zu0, hzu0⟩ := Option.isSome_iff_exists.1 (show (World.cell? _ ⟨w.heap.size + 1 + 1, 0, none⟩).isSome = true by assumption); obtain ⟨zu1, hzu1⟩ := Option.isSome_iff_exists.1 (show (World.cell? _ ⟨w.heap.size + 1 + 1, 1, none⟩).isSome = true by assumption); go_simp))
    go_wp2
    go_split_ands
    refine bodyPost_ret (v := .agg #[.bool (by_ && decide (0 < y.natAbs - x.natAbs)), .slice Az_ nz_ cz_]) (by simp [results, Tryz.results92, go_sem, hzu0, hzu1]) rfl ?_
    obtain ⟨h1, h2, h3⟩ := HBX.out
    refine whPN_mk ?_ ?_ (HF.out.mono (by omega)) (Bel.to (by assumption))
    · exact (add_sign_lt h1 h2 h3 HNL.out).2
    · rw [← (add_sign_lt h1 h2 h3 HNL.out).1]; exact Dg.set (Dg.set HV.out HF.out (by simp) _) HF.out (by simp) _

theorem add_c (v1 v2 : Value) (x y : Int) (w : World) (h1 : Wh w v1 x) (h2 : Wh w v2 y) (hm : (dg 1000000000 x.natAbs).length ≤ 1000000) (hn : (dg 1000000000 y.natAbs).length ≤ 1000000) :
    Calls Tryz.prog 92 #[v1, v2] w (WhPN (x + y) w) := by
  by_cases h : decide (x < 0) = decide (y < 0)
  · exact add_same v1 v2 x y w h1 h2 hm hn h
  · exact add_diff v1 v2 x y w h1 h2 hm hn h

end Go.Proofs.YtbjgpbdkofadiaaGreatDoor
