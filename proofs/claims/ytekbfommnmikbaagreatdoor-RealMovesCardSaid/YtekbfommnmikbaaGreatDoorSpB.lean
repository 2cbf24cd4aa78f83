/- The reference of layer 2: Valid; the statements' helpers. -/
import Derived.Test.YtekbfommnmikbaaGreatDoorSpA
import Derived.Test.YtekbfommnmikbaaGreatDoorR6
namespace Go.Proofs.YtekbfommnmikbaaGreatDoor
set_option linter.unusedVariables false
set_option linter.unusedSimpArgs false
open Go.RowKit Go.Shelf Go.Proofs
attribute [local go_sem ↓] Go.wp_at_zero Go.wp_at_succ

theorem numL_int {m : Int} (h0 : -9223372036854775808 ≤ m) (h1 : m ≤ 9223372036854775807) : NumL (ByteArray.mk (Lib.itoa m).toArray).data.toList m := by
  refine ⟨by simp, ?_⟩
  have h : m.natAbs < 10 ^ 19 := by omega
  exact Nat.lt_of_lt_of_le h (by decide)
theorem len12 (m : Nat) : (dg 10 m).length = 12 ↔ 100000000000 ≤ m ∧ m < 1000000000000 := by
  have h1 := dg_length_le (b := 10) (by decide) m 12
  have h2 := dg_length_lt (b := 10) (by decide) m 11
  omega

set_option maxRecDepth 100000 in
set_option maxHeartbeats 4000000 in
theorem svalid_c (m e : Int) (w : World) (h0 : -9223372036854775808 ≤ m) (h1 : m ≤ 9223372036854775807) :
    Calls Tryz.prog 31 #[.agg #[.int .i64 m, .int .i64 e]] w fun en w' => en = .returned (.bool (decide (RV m.natAbs e))) ∧ Below w.heap.size w w' := by
  obtain ⟨b, hb⟩ : ∃ b, decide (RV m.natAbs e) = b := ⟨_, rfl⟩
  rw [hb]
  obtain ⟨W, hW, k0⟩ : ∃ W, w.alloc (.cells #[.int .i64 m, .int .i64 e] 23) = W ∧ W.heap[w.heap.size]? = some (.cells #[.int .i64 m, .int .i64 e] 23 (0, 0)) := ⟨_, rfl, heap_alloc_new _ _⟩
  have hbel : Below w.heap.size w W := by rw [← hW]; exact (Below.refl _ _).alloc (Nat.le_refl _) _
  have HBEL := Lib.hid hbel
  obtain ⟨c0, c1⟩ := two_cells k0
  clear k0 hbel
  by_cases hm : m = 0
  · subst hm
    have hbe : b = (e == 0) := by
      rw [← hb, Bool.eq_iff_iff, decide_eq_true_iff, beq_iff_eq]
      unfold RV
      omega
    subst hbe
    clear hb
    go_enter Tryz.func31, Tryz.ntmps31
    go_wp2_with fail
    go_ret
    exact ⟨rfl, HBEL.out⟩
  obtain ⟨L, hL⟩ : ∃ L, (dg 10 m.natAbs).length = L := ⟨_, rfl⟩
  have h12 := len12 m.natAbs
  rw [hL] at h12
  have hbv : b = decide (L = 12 ∧ -111 ≤ e ∧ e ≤ 88) := by
    rw [← hb]
    apply decide_eq_decide.2
    rw [h12]
    unfold RV
    omega
  have HL := Lib.hid hL
  have HOF := Lib.hid (fun w' => rof_c _ m w' (numL_int h0 h1))
  have HFI := Lib.hid (fun w' => rfromint_c m w' h0 h1)
  clear hb hL h12
  by_cases k1 : L = 12
  · by_cases k2 : -111 ≤ e
    · by_cases k3 : e ≤ 88
      · obtain rfl : b = true := by rw [hbv]; exact decide_eq_true ⟨k1, k2, k3⟩
        subst k1
        clear hbv
        go_enter Tryz.func31, Tryz.ntmps31
        go_wp2_with (first
          | (go_at_call 94; (with_reducible refine (HFI.out _).mono ?_); rintro en w2 ⟨rfl, hbz⟩; have c0 := keep_cell hbz c0; have c1 := keep_cell hbz c1; have HB := Lib.hid hbz; clear hbz)
          | (go_at_call 93; (with_reducible refine (HOF.out _).mono ?_); rintro en w3 ⟨v, rfl, ⟨p, rfl, A, c, rfl, -⟩, hbz⟩; rw [HL.out]; have c0 := keep_cell hbz c0; have c1 := keep_cell hbz c1; have A0 := fun o => keep_cell ((Below.refl _ _).alloc (Nat.le_refl _) o) c0; have A1 := fun o => keep_cell ((Below.refl _ _).alloc (Nat.le_refl _) o) c1; have HB := Lib.hid (belowT HB.out hbz); clear hbz))
        go_ret
        exact ⟨rfl, belowT HBEL.out (belowA HB.out _)⟩
      · obtain rfl : b = false := by rw [hbv]; apply decide_eq_false; omega
        subst k1
        clear hbv
        go_enter Tryz.func31, Tryz.ntmps31
        go_wp2_with (first
          | (go_at_call 94; (with_reducible refine (HFI.out _).mono ?_); rintro en w2 ⟨rfl, hbz⟩; have c0 := keep_cell hbz c0; have c1 := keep_cell hbz c1; have HB := Lib.hid hbz; clear hbz)
          | (go_at_call 93; (with_reducible refine (HOF.out _).mono ?_); rintro en w3 ⟨v, rfl, ⟨p, rfl, A, c, rfl, -⟩, hbz⟩; rw [HL.out]; have c0 := keep_cell hbz c0; have c1 := keep_cell hbz c1; have A0 := fun o => keep_cell ((Below.refl _ _).alloc (Nat.le_refl _) o) c0; have A1 := fun o => keep_cell ((Below.refl _ _).alloc (Nat.le_refl _) o) c1; have HB := Lib.hid (belowT HB.out hbz); clear hbz))
        go_ret
        refine ⟨?_, belowT HBEL.out (belowA HB.out _)⟩
        show Ending.returned (Value.bool (decide (e ≤ 88))) = _
        rw [decide_eq_false (by omega : ¬ e ≤ 88)]
    · obtain rfl : b = false := by rw [hbv]; apply decide_eq_false; omega
      subst k1
      clear hbv
      go_enter Tryz.func31, Tryz.ntmps31
      go_wp2_with (first
        | (go_at_call 94; (with_reducible refine (HFI.out _).mono ?_); rintro en w2 ⟨rfl, hbz⟩; have c0 := keep_cell hbz c0; have c1 := keep_cell hbz c1; have HB := Lib.hid hbz; clear hbz)
        | (go_at_call 93; (with_reducible refine (HOF.out _).mono ?_); rintro en w3 ⟨v, rfl, ⟨p, rfl, A, c, rfl, -⟩, hbz⟩; rw [HL.out]; have c0 := keep_cell hbz c0; have c1 := keep_cell hbz c1; have A0 := fun o => keep_cell ((Below.refl _ _).alloc (Nat.le_refl _) o) c0; have A1 := fun o => keep_cell ((Below.refl _ _).alloc (Nat.le_refl _) o) c1; have HB := Lib.hid (belowT HB.out hbz); clear hbz))
      go_ret
      exact ⟨rfl, belowT HBEL.out (belowA HB.out _)⟩
  · obtain rfl : b = false := by rw [hbv]; apply decide_eq_false; omega
    have k9 : ((L : Int) == 12) = false := by rw [beq_eq_false_iff_ne]; omega
    clear hbv
    go_enter Tryz.func31, Tryz.ntmps31
    go_wp2_with (first
      | (go_at_call 94; (with_reducible refine (HFI.out _).mono ?_); rintro en w2 ⟨rfl, hbz⟩; have c0 := keep_cell hbz c0; have c1 := keep_cell hbz c1; have HB := Lib.hid hbz; clear hbz)
      | (go_at_call 93; (with_reducible refine (HOF.out _).mono ?_); rintro en w3 ⟨v, rfl, ⟨p, rfl, A, c, rfl, -⟩, hbz⟩; rw [HL.out]; have c0 := keep_cell hbz c0; have c1 := keep_cell hbz c1; have A0 := fun o => keep_cell ((Below.refl _ _).alloc (Nat.le_refl _) o) c0; have A1 := fun o => keep_cell ((Below.refl _ _).alloc (Nat.le_refl _) o) c1; have HB := Lib.hid (belowT HB.out hbz); clear hbz))
    go_ret
    exact ⟨rfl, belowT HBEL.out (belowA HB.out _)⟩

/-- What arg returns. -/
def argV (p q : Prop) [Decidable p] [Decidable q] : Int := if p ∧ q then 0 else 1
set_option maxRecDepth 100000 in
set_option maxHeartbeats 2000000 in
theorem arg_c (xm xe ym ye : Int) (w : World) (hx0 : -9223372036854775808 ≤ xm) (hx1 : xm ≤ 9223372036854775807) (hy0 : -9223372036854775808 ≤ ym) (hy1 : ym ≤ 9223372036854775807) :
    Calls Tryz.prog 20 #[.agg #[.int .i64 xm, .int .i64 xe], .agg #[.int .i64 ym, .int .i64 ye]] w fun en w' => en = .returned (.int .i64 (argV (RV xm.natAbs xe) (RV ym.natAbs ye))) ∧ Below w.heap.size w w' := by
  obtain ⟨W, hW, k0, k1, hbel, hsz⟩ := bx2h w #[.int .i64 xm, .int .i64 xe] #[.int .i64 ym, .int .i64 ye] 23 23
  obtain ⟨c0, c1⟩ := two_cells k0
  obtain ⟨z0, z1⟩ := two_cells k1
  have HBEL := Lib.hid hbel
  have HX := Lib.hid (fun w' => svalid_c xm xe w' hx0 hx1)
  have HY := Lib.hid (fun w' => svalid_c ym ye w' hy0 hy1)
  unfold argV
  clear k0 k1 hbel hsz hx0 hx1 hy0 hy1
  by_cases hx : RV xm.natAbs xe
  · rw [show decide (RV xm.natAbs xe) = true from decide_eq_true hx] at HX
    by_cases hy : RV ym.natAbs ye
    · rw [show decide (RV ym.natAbs ye) = true from decide_eq_true hy] at HY
      rw [if_pos ⟨hx, hy⟩]
      clear hx hy
      go_enter Tryz.func20, Tryz.ntmps20
      go_wp2_with (first
        | (go_at_call 31; (with_reducible refine (HX.out _).mono ?_); rintro en w2 ⟨rfl, hbz⟩; have z0 := keep_cell hbz z0; have z1 := keep_cell hbz z1; have HB := Lib.hid hbz; clear hbz)
        | (go_at_call 31; (with_reducible refine (HY.out _).mono ?_); rintro en w3 ⟨rfl, hbz⟩; have HB := Lib.hid (belowT HB.out hbz); clear hbz))
      go_ret
      exact ⟨rfl, belowT HBEL.out HB.out⟩
    · rw [show decide (RV ym.natAbs ye) = false from decide_eq_false hy] at HY
      rw [if_neg fun h => hy h.2]
      clear hx hy
      go_enter Tryz.func20, Tryz.ntmps20
      go_wp2_with (first
        | (go_at_call 31; (with_reducible refine (HX.out _).mono ?_); rintro en w2 ⟨rfl, hbz⟩; have z0 := keep_cell hbz z0; have z1 := keep_cell hbz z1; have HB := Lib.hid hbz; clear hbz)
        | (go_at_call 31; (with_reducible refine (HY.out _).mono ?_); rintro en w3 ⟨rfl, hbz⟩; have HB := Lib.hid (belowT HB.out hbz); clear hbz))
      go_ret
      exact ⟨rfl, belowT HBEL.out HB.out⟩
  · rw [show decide (RV xm.natAbs xe) = false from decide_eq_false hx] at HX
    rw [if_neg fun h => hx h.1]
    clear hx
    go_enter Tryz.func20, Tryz.ntmps20
    go_wp2_with (go_at_call 31; (with_reducible refine (HX.out _).mono ?_); rintro en w2 ⟨rfl, hbz⟩; have HB := Lib.hid hbz; clear hbz)
    go_ret
    exact ⟨rfl, belowT HBEL.out HB.out⟩

/-- A result is what is wanted. -/
def Agr (m e er bad wm we : Int) (ok : Bool) : Prop := (bad ≠ 0 ∧ er = bad ∧ m = 0 ∧ e = 0) ∨ (bad = 0 ∧ ok = false ∧ er = 3 ∧ m = 0 ∧ e = 0) ∨ (bad = 0 ∧ ok = true ∧ er = 0 ∧ m = wm ∧ e = we)
set_option maxRecDepth 100000 in
set_option maxHeartbeats 2000000 in
theorem agrees_c (m e er bad wm we : Int) (ok : Bool) (w : World) (h : Agr m e er bad wm we ok) :
    Calls Tryz.prog 21 #[.agg #[.int .i64 m, .int .i64 e], .int .i64 er, .int .i64 bad, .agg #[.int .i64 wm, .int .i64 we, .bool ok]] w fun en w' => en = .returned (.bool true) ∧ Below w.heap.size w w' := by
  obtain ⟨W, hW, k0, k1, hbel, hsz⟩ := bx2h w #[.int .i64 m, .int .i64 e] #[.int .i64 wm, .int .i64 we, .bool ok] 23 30
  obtain ⟨c0, c1⟩ := two_cells k0
  obtain ⟨d0, d1, d2, f0, f1, f2⟩ := (box3 k1).out W (Below.refl _ _)
  have HBEL := Lib.hid hbel
  clear k0 k1 hbel hsz
  rcases h with ⟨h1, rfl, rfl, rfl⟩ | ⟨rfl, rfl, rfl, rfl, rfl⟩ | ⟨rfl, rfl, rfl, rfl, rfl⟩
  · have hne : (er != 0) = true := by simp [h1]
    go_enter Tryz.func21, Tryz.ntmps21
    go_wp2_with fail
    go_ret
    exact ⟨rfl, HBEL.out⟩
  · go_enter Tryz.func21, Tryz.ntmps21
    go_wp2_with fail
    go_ret
    exact ⟨rfl, HBEL.out⟩
  · go_enter Tryz.func21, Tryz.ntmps21
    go_wp2_with fail
    go_ret
    refine ⟨?_, HBEL.out⟩
    simp

set_option maxRecDepth 100000 in
set_option maxHeartbeats 2000000 in
theorem none_bad (bad : Int) (F : Value) (w : World) (h : bad ≠ 0) :
    Calls Tryz.prog 22 #[.int .i64 bad, F] w fun en w' => en = .returned (.agg #[.int .i64 0, .int .i64 0, .bool false]) ∧ Below w.heap.size w w' := by
  obtain ⟨W, hW, k0⟩ : ∃ W, w.alloc (.cells #[.int .i64 0, .int .i64 0, .bool false] 30) = W ∧ W.heap[w.heap.size]? = some (.cells #[.int .i64 0, .int .i64 0, .bool false] 30 (0, 0)) := ⟨_, rfl, heap_alloc_new _ _⟩
  have hbel : Below w.heap.size w W := by rw [← hW]; exact (Below.refl _ _).alloc (Nat.le_refl _) _
  obtain ⟨d0, d1, d2, f0, f1, f2⟩ := (box3 k0).out W (Below.refl _ _)
  have FIN := fin3 k0 (Nat.le_refl _) hbel
  have hne : (bad != 0) = true := by simp [h]
  clear k0 hbel h
  go_enter Tryz.func22, Tryz.ntmps22
  go_wp2_with fail
  obtain ⟨r0, r1, r2, hbb⟩ := FIN.out W (.int .i64 0) (.int .i64 0) (.bool false) (Below.refl _ _)
  refine bodyPost_ret (v := .agg #[.int .i64 0, .int .i64 0, .bool false]) (by simp [results, Tryz.results22, go_sem, r0, r1, r2]) rfl ?_
  exact ⟨rfl, hbb⟩
set_option maxRecDepth 100000 in
set_option maxHeartbeats 2000000 in
theorem none_ok (f : Nat) (caps : Array Value) (a b : Int) (k : Bool) (w : World) (e1 : ∀ args w, (callFunc f args).run Tryz.prog w = .ok (.enter f args) w)
    (h : ∀ w', Below w.heap.size w w' → Calls Tryz.prog f caps w' fun en w2 => en = .returned (.agg #[.int .i64 a, .int .i64 b, .bool k]) ∧ Below w'.heap.size w' w2) :
    Calls Tryz.prog 22 #[.int .i64 0, .func (.func f) #[] caps] w fun en w' => en = .returned (.agg #[.int .i64 a, .int .i64 b, .bool k]) ∧ Below w.heap.size w w' := by
  obtain ⟨W, hW, k0⟩ : ∃ W, w.alloc (.cells #[.int .i64 0, .int .i64 0, .bool false] 30) = W ∧ W.heap[w.heap.size]? = some (.cells #[.int .i64 0, .int .i64 0, .bool false] 30 (0, 0)) := ⟨_, rfl, heap_alloc_new _ _⟩
  have hbel : Below w.heap.size w W := by rw [← hW]; exact (Below.refl _ _).alloc (Nat.le_refl _) _
  have BOX := box3 k0
  have FIN := fin3 k0 (Nat.le_refl _) hbel
  have H := Lib.hid (h W hbel)
  clear k0 hbel h
  go_enter Tryz.func22, Tryz.ntmps22
  go_wp2_with (go_at_fn f; (try simp only [List.nil_append, Array.empty_append]); (with_reducible refine H.out.mono ?_); rintro en w2 ⟨rfl, hbz⟩; have HB := Lib.hid hbz; clear hbz; obtain ⟨d0, d1, d2, f0, f1, f2⟩ := BOX.out _ HB.out)
  obtain ⟨r0, r1, r2, hbb⟩ := FIN.out _ (.int .i64 a) (.int .i64 b) (.bool k) HB.out
  refine bodyPost_ret (v := .agg #[.int .i64 a, .int .i64 b, .bool k]) (by simp [results, Tryz.results22, go_sem, r0, r1, r2]) rfl ?_
  exact ⟨rfl, hbb⟩
end Go.Proofs.YtekbfommnmikbaaGreatDoor
