/- The sanity of the laws of package real. -/
import Derived.Test.YtekbfommnmikbaaGreatDoorSanR
namespace Go.Proofs.YtekbfommnmikbaaGreatDoor
set_option linter.unusedVariables false
set_option linter.unusedSimpArgs false
open Go.RowKit Go.Shelf Go.Proofs Go.Sort
attribute [local go_sem ↓] Go.wp_at_zero Go.wp_at_succ

theorem reals_three {w : World} {g : Nat} {a b c d e f : Int} {t : TypeId} (h : w.heap[g]? = some (.cells #[.int .i64 a, .int .i64 b, .int .i64 c, .int .i64 d, .int .i64 e, .int .i64 f] t (0, 0))) : Reals w (some ⟨g, 0, none⟩) [(a, b), (c, d), (e, f)] := fun j hj => by
  refine ⟨_, rfl, ?_⟩
  rw [add_lit, add_lit, cell_of_heap h, cell_of_heap h]
  have : j = 0 ∨ j = 1 ∨ j = 2 := by simp at hj; omega
  rcases this with rfl | rfl | rfl <;> exact ⟨rfl, rfl⟩
theorem two_put {V w : World} {B : Nat} {x y : Value} {t : TypeId} (a b : Value) (h : w.heap[B]? = some (.cells #[x, y] t (0, 0))) (hb : Below V.heap.size V w) (hB : V.heap.size ≤ B) :
    ((w.setCell ⟨B, 0, none⟩ a).setCell ⟨B, 1, none⟩ b).heap[B]? = some (.cells #[a, b] t (0, 0)) ∧ Below V.heap.size V ((w.setCell ⟨B, 0, none⟩ a).setCell ⟨B, 1, none⟩ b) :=
  ⟨putB (putB h 0 a) 1 b, (hb.setCell (p := ⟨B, 0, none⟩) hB _).setCell (p := ⟨B, 1, none⟩) hB _⟩
theorem two_new {V w : World} {t : TypeId} (a b : Value) (hb : Below V.heap.size V w) :
    (w.alloc (.cells #[a, b] t)).heap[w.heap.size]? = some (.cells #[a, b] t (0, 0)) ∧ Below V.heap.size V (w.alloc (.cells #[a, b] t)) := ⟨heap_alloc_new _ _, belowA hb _⟩
theorem two_cells {w : World} {B : Nat} {x y : Value} {t : TypeId} {fz : Nat × Nat} (h : w.heap[B]? = some (.cells #[x, y] t fz)) : w.cell? ⟨B, 0, none⟩ = some x ∧ w.cell? ⟨B, 1, none⟩ = some y := ⟨cell_of_heap h 0, cell_of_heap h 1⟩
theorem nb2 (w : World) (a o : Obj) : ((w.alloc a).alloc o).heap[w.heap.size + 1]? = some o := heap_new' _ _ _ (by simp)
theorem nbd2 (w : World) (o : Obj) : ((w.alloc o).drew).heap[w.heap.size]? = some o := heap_alloc_new w o

set_option maxRecDepth 100000 in
set_option maxHeartbeats 8000000 in
theorem sanityR_c (w : World) (ht : P10 w) : Calls Tryz.prog 25 #[] w fun en w' => en = .returned (.bool true) ∧ Below w.heap.size w w' := by
  have HS1 := Lib.hid (fun w' => (show Calls Tryz.prog 61 #[.int .i64 1, .int .i64 0] w' fun en w2 => en = .returned (.agg #[.int .i64 100000000000, .int .i64 (-11)]) ∧ Below w'.heap.size w' w2 from smallR_c 1 0 w' (by decide) (by decide) (by decide) (by decide) (by decide)))
  have HS2 := Lib.hid (fun w' => (show Calls Tryz.prog 61 #[.int .i64 2, .int .i64 0] w' fun en w2 => en = .returned (.agg #[.int .i64 200000000000, .int .i64 (-11)]) ∧ Below w'.heap.size w' w2 from smallR_c 2 0 w' (by decide) (by decide) (by decide) (by decide) (by decide)))
  have HS3 := Lib.hid (fun w' => (show Calls Tryz.prog 61 #[.int .i64 1, .int .i64 50] w' fun en w2 => en = .returned (.agg #[.int .i64 100000000000, .int .i64 39]) ∧ Below w'.heap.size w' w2 from smallR_c 1 50 w' (by decide) (by decide) (by decide) (by decide) (by decide)))
  have HS4 := Lib.hid (fun w' => (show Calls Tryz.prog 61 #[.int .i64 (-1), .int .i64 50] w' fun en w2 => en = .returned (.agg #[.int .i64 (-100000000000), .int .i64 39]) ∧ Below w'.heap.size w' w2 from smallR_c (-1) 50 w' (by decide) (by decide) (by decide) (by decide) (by decide)))
  have HS5 := Lib.hid (fun w' => (show Calls Tryz.prog 61 #[.int .i64 3, .int .i64 0] w' fun en w2 => en = .returned (.agg #[.int .i64 300000000000, .int .i64 (-11)]) ∧ Below w'.heap.size w' w2 from smallR_c 3 0 w' (by decide) (by decide) (by decide) (by decide) (by decide)))
  have HSM := Lib.hid (fun (A : Option Addr) w' hr => (show Calls Tryz.prog 40 #[.slice A 3 3] w' fun en w2 => en = .returned (.tuple #[.agg #[.int .i64 100000000000, .int .i64 (-11)], .int .i64 0]) ∧ Below w'.heap.size w' w2 from by
    have h := sumX_c A 3 [(100000000000, 39), (100000000000, -11), (-100000000000, 39)] w' hr (by intro p hp; simp at hp; rcases hp with rfl | rfl | rfl <;> exact ⟨by decide, by decide⟩) (by decide)
    rw [san_sum] at h
    exact h))
  have HDV := Lib.hid (fun w' => (show Calls Tryz.prog 47 #[.agg #[.int .i64 200000000000, .int .i64 (-11)], .agg #[.int .i64 300000000000, .int .i64 (-11)]] w' fun en w2 => en = .returned (.tuple #[.agg #[.int .i64 666666666667, .int .i64 (-12)], .int .i64 0]) ∧ Below w'.heap.size w' w2 from by
    have h := divX_c 200000000000 (-11) 300000000000 (-11) w' (by decide) (by decide) (by decide) (by decide)
    rw [san_div] at h
    exact h))
  have HRT := Lib.hid (fun w' => (show Calls Tryz.prog 48 #[.agg #[.int .i64 200000000000, .int .i64 (-11)]] w' fun en w2 => en = .returned (.tuple #[.agg #[.int .i64 141421356237, .int .i64 (-11)], .int .i64 0]) ∧ Below w'.heap.size w' w2 from by
    have h := rootR_c 200000000000 (-11) w' (by decide) (by decide)
    rw [san_root] at h
    exact h))
  have HRN := Lib.hid (fun w' => (show Calls Tryz.prog 19 #[.agg #[.int .i64 125000000000, .int .i64 (-12)], .int .i64 2] w' fun en w2 => en = .returned (.tuple #[.agg #[.int .i64 120000000000, .int .i64 (-12)], .int .i64 0]) ∧ Below w'.heap.size w' w2 from by
    have h := roundR_c 125000000000 (-12) 2 w' (by decide) (by decide)
    rw [san_round] at h
    exact h))
  have HST := Lib.hid (fun w' => (show Calls Tryz.prog 57 #[.agg #[.int .i64 0, .int .i64 0], .agg #[.int .i64 100000000000, .int .i64 (-11)]] w' fun en w2 => en = .returned (.tuple #[.int .i64 90000000000001, .int .i64 0]) ∧ Below w'.heap.size w' w2 from by
    have h := steps_c 0 0 100000000000 (-11) w' (by decide) (by decide) (by decide) (by decide)
    rw [san_steps, if_pos (by decide +kernel)] at h
    exact h))
  have HSL := Lib.hid (fun w' => (show Calls Tryz.prog 18 #[.agg #[.int .i64 100000000000, .int .i64 (-11)], .int .i64 100] w' fun en w2 => en = .returned (.tuple #[.agg #[.int .i64 0, .int .i64 0], .int .i64 3]) ∧ Below w'.heap.size w' w2 from by
    have h := scaleR_c 100000000000 (-11) 100 w' (by decide) (by decide)
    rw [san_scale] at h
    exact h))
  have HPT := Lib.hid (fun w' (ht : P10 w') => (show Calls Tryz.prog 29 #[.agg #[.int .i64 (-250000000000), .int .i64 (-15)]] w' fun en w2 => en = .returned (.tuple #[.string ⟨#[45, 48, 46, 48, 48, 48, 50, 53]⟩, .int .i64 0]) ∧ Below w'.heap.size w' w2 from by
    have h := printR_ab (-250000000000) (-15) w' (by decide) (by decide) ht (by decide)
    rw [san_print] at h
    exact h))
  have HPS := Lib.hid (fun w' => (show Calls Tryz.prog 28 #[.string ⟨#[49, 50, 46, 53, 48]⟩] w' fun en w2 => en = .returned (.tuple #[.agg #[.int .i64 125000000000, .int .i64 (-10)], .int .i64 0]) ∧ Below w'.heap.size w' w2 from by
    have h := parseR_c [49, 50, 46, 53, 48] w' (by decide)
    rw [san_parse] at h
    exact h))
  have HP := Lib.hid ht
  go_enter Tryz.func25, Tryz.ntmps25
  go_upto_region 3 with (first
    | (go_at_call 61; (with_reducible refine (HS1.out _).mono ?_); rintro en w2 ⟨rfl, hbz⟩; have HB := Lib.hid hbz; clear hbz)
    | (go_at_call 61; (with_reducible refine (HS2.out _).mono ?_); rintro en w3 ⟨rfl, hbz⟩; have HX1 := Lib.hid (heapB hbz (heap_alloc_new _ _)); have HB := Lib.hid (belowT (belowA HB.out _) hbz); clear hbz))
  obtain ⟨V, hV⟩ : ∃ V, w3.alloc (.cells #[.int .i64 200000000000, .int .i64 (-11)] 23) = V := ⟨_, rfl⟩
  rw [hV]
  have HBV : Hid (Below w.heap.size w V) := by rw [← hV]; exact belowA HB.out _
  have HXV1 : Hid (V.heap[w2.heap.size]? = some (.cells #[.int .i64 100000000000, .int .i64 (-11)] 23 (0, 0))) := by rw [← hV]; exact heap_old _ HX1.out
  have HXV2 : Hid (V.heap[w3.heap.size]? = some (.cells #[.int .i64 200000000000, .int .i64 (-11)] 23 (0, 0))) := by rw [← hV]; exact heap_alloc_new _ _
  obtain ⟨P1, hP1⟩ : ∃ P, w2.heap.size = P := ⟨_, rfl⟩
  obtain ⟨P2, hP2⟩ : ∃ P, w3.heap.size = P := ⟨_, rfl⟩
  rw [hP1] at HXV1 ⊢
  rw [hP2] at HXV2 ⊢
  clear hV HX1 HB hP1 hP2
  go_cut [3, 4] from 16 to 23 (fun v3 v4 wx => ∃ g, v3 = .pointer (some ⟨g, 0, none⟩) ∧ v4 = .int .i64 0 ∧ Hid (wx.heap[g]? = some (.cells #[.int .i64 100000000000, .int .i64 (-11)] 23 (0, 0))) ∧ Hid (Below V.heap.size V wx))
  case first =>
    have HB : Hid (Below V.heap.size V V) := Below.refl _ _
    have hbx := True.intro
    have c00 := cell_of_heap HXV1.out 0; have c01 := cell_of_heap HXV1.out 1
    simp at c00 c01
    have C00 := Lib.hid c00; have C01 := Lib.hid c01
    have a00 := fun o => keep_cell ((Below.refl V.heap.size V).alloc (Nat.le_refl _) o) c00
    have a01 := fun o => keep_cell ((Below.refl V.heap.size V).alloc (Nat.le_refl _) o) c01
    go_region_with (first
      | (go_at_call 61; (with_reducible refine (HS3.out _).mono ?_); rintro en w5 ⟨rfl, hbz⟩; (first | (with_reducible have hbx := heapB hbz hbx) | (with_reducible have hbx := heapB hbz (heap_old _ hbx)) | (with_reducible have hbx := heapB hbz (nb2 _ _ (.cells #[.int .i64 0, .int .i64 0] 23))) | (with_reducible have hbx := heapB hbz (heap_alloc_new _ (.cells #[.int .i64 0, .int .i64 0] 23))) | (with_reducible have hbx := heapB hbz (nbd2 _ (.cells #[.int .i64 0, .int .i64 0] 23))) | (with_reducible have hbx := heapB hbz (heap_old _ (heap_alloc_new _ (.cells #[.int .i64 0, .int .i64 0] 23)))) | skip); (first | (with_reducible have HB := Lib.hid (belowT HB.out hbz)) | (with_reducible have HB := Lib.hid (belowT HB.out.drew hbz)) | (with_reducible have HB := Lib.hid (belowT (belowA HB.out _) hbz)) | (with_reducible have HB := Lib.hid (belowT (belowA HB.out _).drew hbz)) | (with_reducible have HB := Lib.hid (belowT (belowA (belowA HB.out _) _) hbz)) | (with_reducible have HB := Lib.hid (belowT (belowA (belowA HB.out _) _).drew hbz))); have a00 := fun o => keep_cell ((Below.refl _ _).alloc (Nat.le_refl _) o) (keep_cell HB.out C00.out); have a01 := fun o => keep_cell ((Below.refl _ _).alloc (Nat.le_refl _) o) (keep_cell HB.out C01.out); have c00 := keep_cell HB.out C00.out; have c01 := keep_cell HB.out C01.out; have hsz9 := HB.out.size; clear hbz)
      | (go_at_call 61; (with_reducible refine (HS4.out _).mono ?_); rintro en w6 ⟨rfl, hbz⟩; (first | (with_reducible have hbx := heapB hbz hbx) | (with_reducible have hbx := heapB hbz (heap_old _ hbx)) | (with_reducible have hbx := heapB hbz (nb2 _ _ (.cells #[.int .i64 0, .int .i64 0] 23))) | (with_reducible have hbx := heapB hbz (heap_alloc_new _ (.cells #[.int .i64 0, .int .i64 0] 23))) | (with_reducible have hbx := heapB hbz (nbd2 _ (.cells #[.int .i64 0, .int .i64 0] 23))) | (with_reducible have hbx := heapB hbz (heap_old _ (heap_alloc_new _ (.cells #[.int .i64 0, .int .i64 0] 23)))) | skip); (first | (with_reducible have HB := Lib.hid (belowT HB.out hbz)) | (with_reducible have HB := Lib.hid (belowT HB.out.drew hbz)) | (with_reducible have HB := Lib.hid (belowT (belowA HB.out _) hbz)) | (with_reducible have HB := Lib.hid (belowT (belowA HB.out _).drew hbz)) | (with_reducible have HB := Lib.hid (belowT (belowA (belowA HB.out _) _) hbz)) | (with_reducible have HB := Lib.hid (belowT (belowA (belowA HB.out _) _).drew hbz))); have a00 := fun o => keep_cell ((Below.refl _ _).alloc (Nat.le_refl _) o) (keep_cell HB.out C00.out); have a01 := fun o => keep_cell ((Below.refl _ _).alloc (Nat.le_refl _) o) (keep_cell HB.out C01.out); have c00 := keep_cell HB.out C00.out; have c01 := keep_cell HB.out C01.out; have hsz9 := HB.out.size; clear hbz)
      | (go_at_call 40; (with_reducible refine (HSM.out _ _ (by first | exact reals_three (heap_alloc_new _ _) | exact reals_three (nb2 _ _ _) | exact reals_three (heap_old _ (heap_alloc_new _ _)))).mono ?_); rintro en w7 ⟨rfl, hbz⟩; (first | (with_reducible have hbx := heapB hbz hbx) | (with_reducible have hbx := heapB hbz (heap_old _ hbx)) | (with_reducible have hbx := heapB hbz (nb2 _ _ (.cells #[.int .i64 0, .int .i64 0] 23))) | (with_reducible have hbx := heapB hbz (heap_alloc_new _ (.cells #[.int .i64 0, .int .i64 0] 23))) | (with_reducible have hbx := heapB hbz (nbd2 _ (.cells #[.int .i64 0, .int .i64 0] 23))) | (with_reducible have hbx := heapB hbz (heap_old _ (heap_alloc_new _ (.cells #[.int .i64 0, .int .i64 0] 23)))) | skip); (first | (with_reducible have HB := Lib.hid (belowT HB.out hbz)) | (with_reducible have HB := Lib.hid (belowT HB.out.drew hbz)) | (with_reducible have HB := Lib.hid (belowT (belowA HB.out _) hbz)) | (with_reducible have HB := Lib.hid (belowT (belowA HB.out _).drew hbz)) | (with_reducible have HB := Lib.hid (belowT (belowA (belowA HB.out _) _) hbz)) | (with_reducible have HB := Lib.hid (belowT (belowA (belowA HB.out _) _).drew hbz))); (first | (with_reducible (obtain ⟨y0, y1⟩ := two_cells hbx; have y2 := free_of_heap hbx 0; have y3 := free_of_heap hbx 1)) | skip); clear hbz))
    all_goals
      go_wp2_with fail
      go_meet
      (first
        | (obtain ⟨hp1, hp2⟩ := two_put (.int .i64 100000000000) (.int .i64 (-11)) hbx HB.out (by first | exact Nat.le_refl _ | omega); exact ⟨_, rfl, rfl, hp1, hp2⟩)
        | (obtain ⟨hp1, hp2⟩ := two_new (t := 23) (.int .i64 100000000000) (.int .i64 (-11)) HB.out; exact ⟨_, rfl, rfl, hp1, hp2⟩))
  case rest =>
    obtain ⟨P3, rfl, rfl, HX3, HB3⟩ := hcut
    have HXW1 := Lib.hid (heapB HB3.out HXV1.out)
    have HXW2 := Lib.hid (heapB HB3.out HXV2.out)
    have HBW := Lib.hid (belowT HBV.out HB3.out)
    clear HB3 HXV1 HXV2 HBV
    obtain ⟨U, hU⟩ : ∃ U, wc = U := ⟨_, rfl⟩
    rw [hU] at HX3 HXW1 HXW2 HBW ⊢
    clear hU
    go_upto_region 4 with fail
    go_cut [5, 6] from 24 to 29 (fun v3 v4 wx => ∃ g, v3 = .pointer (some ⟨g, 0, none⟩) ∧ v4 = .int .i64 0 ∧ Hid (wx.heap[g]? = some (.cells #[.int .i64 666666666667, .int .i64 (-12)] 23 (0, 0))) ∧ Hid (Below U.heap.size U wx))
    case first =>
      have HB : Hid (Below U.heap.size U U) := Below.refl _ _
      have hbx := True.intro
      have c00 := cell_of_heap HXW2.out 0; have c01 := cell_of_heap HXW2.out 1
      simp at c00 c01
      have C00 := Lib.hid c00; have C01 := Lib.hid c01
      have a00 := fun o => keep_cell ((Below.refl U.heap.size U).alloc (Nat.le_refl _) o) c00
      have a01 := fun o => keep_cell ((Below.refl U.heap.size U).alloc (Nat.le_refl _) o) c01
      go_region_with (first
        | (go_at_call 61; (with_reducible refine (HS5.out _).mono ?_); rintro en w8 ⟨rfl, hbz⟩; (first | (with_reducible have hbx := heapB hbz hbx) | (with_reducible have hbx := heapB hbz (heap_old _ hbx)) | (with_reducible have hbx := heapB hbz (nb2 _ _ (.cells #[.int .i64 0, .int .i64 0] 23))) | (with_reducible have hbx := heapB hbz (heap_alloc_new _ (.cells #[.int .i64 0, .int .i64 0] 23))) | (with_reducible have hbx := heapB hbz (nbd2 _ (.cells #[.int .i64 0, .int .i64 0] 23))) | (with_reducible have hbx := heapB hbz (heap_old _ (heap_alloc_new _ (.cells #[.int .i64 0, .int .i64 0] 23)))) | skip); (first | (with_reducible have HB := Lib.hid (belowT HB.out hbz)) | (with_reducible have HB := Lib.hid (belowT HB.out.drew hbz)) | (with_reducible have HB := Lib.hid (belowT (belowA HB.out _) hbz)) | (with_reducible have HB := Lib.hid (belowT (belowA HB.out _).drew hbz)) | (with_reducible have HB := Lib.hid (belowT (belowA (belowA HB.out _) _) hbz)) | (with_reducible have HB := Lib.hid (belowT (belowA (belowA HB.out _) _).drew hbz))); have a00 := fun o => keep_cell ((Below.refl _ _).alloc (Nat.le_refl _) o) (keep_cell HB.out C00.out); have a01 := fun o => keep_cell ((Below.refl _ _).alloc (Nat.le_refl _) o) (keep_cell HB.out C01.out); have c00 := keep_cell HB.out C00.out; have c01 := keep_cell HB.out C01.out; have hsz9 := HB.out.size; clear hbz)
        | (go_at_call 47; (with_reducible refine (HDV.out _).mono ?_); rintro en w9 ⟨rfl, hbz⟩; (first | (with_reducible have hbx := heapB hbz hbx) | (with_reducible have hbx := heapB hbz (heap_old _ hbx)) | (with_reducible have hbx := heapB hbz (nb2 _ _ (.cells #[.int .i64 0, .int .i64 0] 23))) | (with_reducible have hbx := heapB hbz (heap_alloc_new _ (.cells #[.int .i64 0, .int .i64 0] 23))) | (with_reducible have hbx := heapB hbz (nbd2 _ (.cells #[.int .i64 0, .int .i64 0] 23))) | (with_reducible have hbx := heapB hbz (heap_old _ (heap_alloc_new _ (.cells #[.int .i64 0, .int .i64 0] 23)))) | skip); (first | (with_reducible have HB := Lib.hid (belowT HB.out hbz)) | (with_reducible have HB := Lib.hid (belowT HB.out.drew hbz)) | (with_reducible have HB := Lib.hid (belowT (belowA HB.out _) hbz)) | (with_reducible have HB := Lib.hid (belowT (belowA HB.out _).drew hbz)) | (with_reducible have HB := Lib.hid (belowT (belowA (belowA HB.out _) _) hbz)) | (with_reducible have HB := Lib.hid (belowT (belowA (belowA HB.out _) _).drew hbz))); (first | (with_reducible (obtain ⟨y0, y1⟩ := two_cells hbx; have y2 := free_of_heap hbx 0; have y3 := free_of_heap hbx 1)) | skip); clear hbz))
      all_goals
        go_wp2_with fail
        go_meet
        (first
          | (obtain ⟨hp1, hp2⟩ := two_put (.int .i64 666666666667) (.int .i64 (-12)) hbx HB.out (by first | exact Nat.le_refl _ | omega); exact ⟨_, rfl, rfl, hp1, hp2⟩)
          | (obtain ⟨hp1, hp2⟩ := two_new (t := 23) (.int .i64 666666666667) (.int .i64 (-12)) HB.out; exact ⟨_, rfl, rfl, hp1, hp2⟩))
    case rest =>
      obtain ⟨P5, rfl, rfl, HX5, HB5⟩ := hcut
      have HX1 := Lib.hid (heapB HB5.out HXW1.out)
      have HX2 := Lib.hid (heapB HB5.out HXW2.out)
      have HX3 := Lib.hid (heapB HB5.out HX3.out)
      have HB := Lib.hid (belowT HBW.out HB5.out)
      have c20 := cell_of_heap HX2.out 0; have c21 := cell_of_heap HX2.out 1
      simp at c20 c21
      clear HXW1 HXW2 HBW HB5
      go_upto_region 7 with (first
        | (go_at_call 48; (with_reducible refine (HRT.out _).mono ?_); rintro en w10 ⟨rfl, hbz⟩; have HX1 := Lib.hid (heapB hbz HX1.out); have HX3 := Lib.hid (heapB hbz HX3.out); have HX5 := Lib.hid (heapB hbz HX5.out); have HB := Lib.hid (belowT HB.out hbz); clear hbz)
        | (go_at_call 19; (with_reducible refine (HRN.out _).mono ?_); rintro en w11 ⟨rfl, hbz⟩; have HX1 := Lib.hid (heapB hbz (heap_old _ HX1.out)); have HX3 := Lib.hid (heapB hbz (heap_old _ HX3.out)); have HX5 := Lib.hid (heapB hbz (heap_old _ HX5.out)); have HX7 := Lib.hid (heapB hbz (heap_alloc_new _ _)); have HB := Lib.hid (belowT (belowA HB.out _) hbz); clear hbz))
      obtain ⟨Z, hZ⟩ : ∃ Z, w11.alloc (.cells #[.int .i64 120000000000, .int .i64 (-12)] 23) = Z := ⟨_, rfl⟩
      rw [hZ]
      have HY1 : Hid (Z.heap[P1]? = some (.cells #[.int .i64 100000000000, .int .i64 (-11)] 23 (0, 0))) := by rw [← hZ]; exact heap_old _ HX1.out
      have HY3 : Hid (Z.heap[P3]? = some (.cells #[.int .i64 100000000000, .int .i64 (-11)] 23 (0, 0))) := by rw [← hZ]; exact heap_old _ HX3.out
      have HY5 : Hid (Z.heap[P5]? = some (.cells #[.int .i64 666666666667, .int .i64 (-12)] 23 (0, 0))) := by rw [← hZ]; exact heap_old _ HX5.out
      have HY7 : Hid (Z.heap[w10.heap.size]? = some (.cells #[.int .i64 141421356237, .int .i64 (-11)] 23 (0, 0))) := by rw [← hZ]; exact heap_old _ HX7.out
      have HY9 : Hid (Z.heap[w11.heap.size]? = some (.cells #[.int .i64 120000000000, .int .i64 (-12)] 23 (0, 0))) := by rw [← hZ]; exact heap_alloc_new _ _
      have HB : Hid (Below w.heap.size w Z) := by rw [← hZ]; exact belowA HB.out _
      obtain ⟨c10, c11⟩ := two_cells HY1.out
      obtain ⟨c30, c31⟩ := two_cells HY3.out
      obtain ⟨c50, c51⟩ := two_cells HY5.out
      obtain ⟨c70, c71⟩ := two_cells HY7.out
      obtain ⟨c90, c91⟩ := two_cells HY9.out
      clear hZ c20 c21 HX1 HX2 HX3 HX5 HX7 HY1 HY3 HY5 HY7 HY9
      go_wp2_with (first
        | (go_at_call 57; (with_reducible refine (HST.out _).mono ?_); rintro en w12 ⟨rfl, hbz⟩; have c10 := keep_cell hbz c10; have c11 := keep_cell hbz c11; have HB := Lib.hid (belowT HB.out hbz); clear hbz)
        | (go_at_call 18; (with_reducible refine (HSL.out _).mono ?_); rintro en w13 ⟨rfl, hbz⟩; have HB := Lib.hid (belowT HB.out hbz); clear hbz)
        | (go_at_call 29; (with_reducible refine (HPT.out _ (HP.out.below HB.out)).mono ?_); rintro en w14 ⟨rfl, hbz⟩; have HB := Lib.hid (belowT HB.out hbz); clear hbz)
        | (go_at_call 28; (with_reducible refine (HPS.out _).mono ?_); rintro en w15 ⟨rfl, hbz⟩; have HB := Lib.hid (belowT HB.out hbz); clear hbz))
      go_ret
      exact ⟨rfl, belowA HB.out _⟩
end Go.Proofs.YtekbfommnmikbaaGreatDoor
