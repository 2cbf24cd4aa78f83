/- Texts of this claim, merged: ExactL. -/
import Derived.Test.YtekbfommnmikbaaGreatDoorE6
/- The law RealExact: its walk. -/
namespace Go.Proofs.YtekbfommnmikbaaGreatDoor
set_option linter.unusedVariables false
set_option linter.unusedSimpArgs false
open Go.RowKit Go.Shelf Go.Proofs Go.Sort
attribute [local go_sem ↓] Go.wp_at_zero Go.wp_at_succ
attribute [local go_sem] max2_int min2_int max_two min_two

theorem num_itoa {n : Int} (h : n.natAbs < 1000000000000) : NumL (⟨(Lib.itoa n).toArray⟩ : ByteArray).data.toList n := ⟨by simp, by
  have : (1000000000000 : Nat) = 10 ^ 12 := rfl
  rw [this] at h
  exact Nat.lt_of_lt_of_le h (Nat.pow_le_pow_right (by decide) (by decide))⟩
set_option maxRecDepth 100000 in
set_option maxHeartbeats 2000000 in
theorem whole_c (n : Int) (w : World) (h : n.natAbs < 1000000000000) (ht : P10 w) :
    Calls Tryz.prog 69 #[.int .i64 n] w fun en w' => en = .returned (.tuple #[.agg #[.int .i64 (wm n), .int .i64 (we n)], .bool true]) ∧ Below w.heap.size w w' := by
  obtain ⟨W, hW, k0, hbel⟩ := bx1h w #[.int .i64 0, .int .i64 0] 23
  have BOX := box2 k0
  have FIN := fin2 k0 (Nat.le_refl _) hbel
  have HI := Lib.hid (fromIntP_c n W (by omega) (by omega) (ht.below hbel))
  obtain ⟨S, hS⟩ : ∃ S, (⟨(Lib.itoa n).toArray⟩ : ByteArray) = S := ⟨_, rfl⟩
  have HF := Lib.hid (fun w' => fromN_at S n w' (by rw [← hS]; exact num_itoa h))
  rw [(whole_rnd h).1] at HF
  obtain ⟨a, ha⟩ : ∃ a, wm n = a := ⟨_, rfl⟩
  obtain ⟨b, hb⟩ : ∃ b, we n = b := ⟨_, rfl⟩
  rw [ha, hb] at HF ⊢
  have HF : Hid (∀ w', Calls Tryz.prog 63 #[.string S] w' fun en w2 => en = .returned (.tuple #[.agg #[.int .i64 a, .int .i64 b], .int .i64 0]) ∧ Below w'.heap.size w' w2) := HF
  rw [hS] at HI
  clear k0 hbel ht h hS ha hb
  go_enter Tryz.func69, Tryz.ntmps69
  go_wp2_with (first
    | (go_at_call 82; (with_reducible refine (HI.out).mono ?_); rintro en w2 ⟨rfl, hbz⟩; have HB := Lib.hid hbz; clear hbz)
    | (go_at_call 63; (with_reducible refine (HF.out _).mono ?_); rintro en w3 ⟨rfl, hbz⟩; have HB := Lib.hid (belowA (belowT HB.out hbz) (.cells #[.int .i64 a, .int .i64 b] 23)); clear hbz; obtain ⟨x0, x1, y0, y1⟩ := BOX.out _ HB.out))
  obtain ⟨r0, r1, hbb⟩ := FIN.out _ a b HB.out
  refine bodyPost_ret (v := .tuple #[.agg #[.int .i64 a, .int .i64 b], .bool true]) (by simp [results, Tryz.results69, go_sem, r0, r1]) rfl ?_
  exact ⟨rfl, hbb⟩
theorem cmp_sign {x y c : Int} (h : max (-1) (min (x - y) 1) = c) : c < 0 ↔ x < y := by omega

set_option maxRecDepth 100000 in
set_option maxHeartbeats 16000000 in
theorem exact_walk (a b xm xe ym ye : Int) (w : World) (ht : P10 w) (hx0 : -9223372036854775808 ≤ xm) (hx1 : xm ≤ 9223372036854775807) (hy0 : -9223372036854775808 ≤ ym) (hy1 : ym ≤ 9223372036854775807) :
    Calls Tryz.prog 14 #[.int .i64 a, .int .i64 b, .agg #[.int .i64 xm, .int .i64 xe], .agg #[.int .i64 ym, .int .i64 ye]] w fun en w' => en = .returned (.bool true) ∧ Below w.heap.size w w' := by
  obtain ⟨W, hW, q0, q1, hbel, hsz⟩ := bx2h w #[.int .i64 xm, .int .i64 xe] #[.int .i64 ym, .int .i64 ye] 23 23
  have HBEL := Lib.hid hbel
  have HT := Lib.hid (ht.below hbel)
  obtain ⟨c0, c1⟩ := two_cells q0
  obtain ⟨z0, z1⟩ := two_cells q1
  have HSAN : Hid (∀ w' : World, P10 w' → Calls Tryz.prog 25 #[] w' fun e w2 => e = .returned (.bool true) ∧ Below w'.heap.size w' w2) := sanityR_c
  clear q0 q1 hbel hsz
  by_cases ha1 : 999999 < a
  · skip
    go_enter Tryz.func14, Tryz.ntmps14
    go_wp2_with (first
      | (go_at_call 25; (with_reducible refine (HSAN.out _ HT.out).mono ?_); rintro en w9 ⟨rfl, hbz⟩; have HB := Lib.hid hbz; clear hbz))
    go_ret
    exact ⟨rfl, belowT HBEL.out HB.out⟩
  by_cases ha2 : a < -999999
  · skip
    go_enter Tryz.func14, Tryz.ntmps14
    go_wp2_with (first
      | (go_at_call 25; (with_reducible refine (HSAN.out _ HT.out).mono ?_); rintro en w9 ⟨rfl, hbz⟩; have HB := Lib.hid hbz; clear hbz))
    go_ret
    exact ⟨rfl, belowT HBEL.out HB.out⟩
  by_cases hb1 : 999999 < b
  · skip
    go_enter Tryz.func14, Tryz.ntmps14
    go_wp2_with (first
      | (go_at_call 25; (with_reducible refine (HSAN.out _ HT.out).mono ?_); rintro en w9 ⟨rfl, hbz⟩; have HB := Lib.hid hbz; clear hbz))
    go_ret
    exact ⟨rfl, belowT HBEL.out HB.out⟩
  by_cases hb2 : b < -999999
  · skip
    go_enter Tryz.func14, Tryz.ntmps14
    go_wp2_with (first
      | (go_at_call 25; (with_reducible refine (HSAN.out _ HT.out).mono ?_); rintro en w9 ⟨rfl, hbz⟩; have HB := Lib.hid hbz; clear hbz))
    go_ret
    exact ⟨rfl, belowT HBEL.out HB.out⟩
  have hna : a.natAbs ≤ 999999 := by omega
  have hnb : b.natAbs ≤ 999999 := by omega
  have habn : (a * b).natAbs ≤ 999999 * 999999 := by rw [Int.natAbs_mul]; exact Nat.mul_le_mul hna hnb
  have haan : (a * a).natAbs ≤ 999999 * 999999 := by rw [Int.natAbs_mul]; exact Nat.mul_le_mul hna hna
  have hw1 : IntKind.i64.wrap (a + b) = a + b := IntWalk.i64_in _ (by omega)
  have hw2 : IntKind.i64.wrap (a - b) = a - b := IntWalk.i64_in _ (by omega)
  have hw3 : IntKind.i64.wrap (a * b) = a * b := IntWalk.i64_in _ (by omega)
  have hw4 : IntKind.i64.wrap (a * a) = a * a := IntWalk.i64_in _ (by omega)
  have hw5 : IntKind.i64.wrap (-a) = -a := IntWalk.i64_in _ (by omega)
  have hmx : (if -a > a then -a else a) = (a.natAbs : Int) := by split <;> omega
  have hmx2 : max a (-a) = (a.natAbs : Int) := by omega
  have e1 := ex_add (a := a) (b := b) (by omega) (by omega) (by omega)
  have e2 := ex_sub (a := a) (b := b) (by omega) (by omega) (by omega)
  have e3 := ex_mul (a := a) (b := b) (by omega) (by omega) (by omega)
  have e4 := ex_root (a := a) (by omega) (by omega)
  have rg : ∀ {n : Int}, n.natAbs < 1000000000000 → -9223372036854775808 ≤ wm n ∧ wm n ≤ 9223372036854775807 := fun h => by
    have := (whole_rnd h).2
    unfold RV at this
    omega
  have ra := rg (n := a) (by omega)
  have rb := rg (n := b) (by omega)
  have raa := rg (n := a * a) (by omega)
  have HWp := Lib.hid (fun w' ht => whole_c a w' (by omega) ht)
  have HWq := Lib.hid (fun w' ht => whole_c b w' (by omega) ht)
  have HWs := Lib.hid (fun w' ht => whole_c (a + b) w' (by omega) ht)
  have HWl := Lib.hid (fun w' ht => whole_c (a - b) w' (by omega) ht)
  have HWm := Lib.hid (fun w' ht => whole_c (a * b) w' (by omega) ht)
  have HWk := Lib.hid (fun w' ht => whole_c (a * a) w' (by omega) ht)
  have HWg := Lib.hid (fun w' ht => whole_c (a.natAbs : Int) w' (by omega) ht)
  have HADD := Lib.hid (fun w' => addX_c (wm a) (we a) (wm b) (we b) w' ra.1 ra.2 rb.1 rb.2)
  have HSUB := Lib.hid (fun w' => subX_c (wm a) (we a) (wm b) (we b) w' ra.1 ra.2 rb.1 rb.2)
  have HMUL := Lib.hid (fun w' => mulX_c (wm a) (we a) (wm b) (we b) w' ra.1 ra.2 rb.1 rb.2)
  have HROOT := Lib.hid (fun w' => rootR_c (wm (a * a)) (we (a * a)) w' raa.1 raa.2)
  rw [e1] at HADD
  rw [e2] at HSUB
  rw [e3] at HMUL
  rw [e4] at HROOT
  clear e1 e2 e3 e4 ra rb raa rg hna hnb habn haan
  obtain ⟨pa, hpa⟩ : ∃ x, wm a = x := ⟨_, rfl⟩
  obtain ⟨pe, hpe⟩ : ∃ x, we a = x := ⟨_, rfl⟩
  rw [hpa, hpe] at HWp HADD HSUB HMUL
  clear hpa hpe
  obtain ⟨qa, hqa⟩ : ∃ x, wm b = x := ⟨_, rfl⟩
  obtain ⟨qe, hqe⟩ : ∃ x, we b = x := ⟨_, rfl⟩
  rw [hqa, hqe] at HWq HADD HSUB HMUL
  clear hqa hqe
  obtain ⟨sa, hsa⟩ : ∃ x, wm (a + b) = x := ⟨_, rfl⟩
  obtain ⟨se, hse⟩ : ∃ x, we (a + b) = x := ⟨_, rfl⟩
  rw [hsa, hse] at HWs HADD
  clear hsa hse
  obtain ⟨la, hla⟩ : ∃ x, wm (a - b) = x := ⟨_, rfl⟩
  obtain ⟨le, hle⟩ : ∃ x, we (a - b) = x := ⟨_, rfl⟩
  rw [hla, hle] at HWl HSUB
  clear hla hle
  obtain ⟨ma, hma⟩ : ∃ x, wm (a * b) = x := ⟨_, rfl⟩
  obtain ⟨me, hme⟩ : ∃ x, we (a * b) = x := ⟨_, rfl⟩
  rw [hma, hme] at HWm HMUL
  clear hma hme
  obtain ⟨ka, hka⟩ : ∃ x, wm (a * a) = x := ⟨_, rfl⟩
  obtain ⟨ke, hke⟩ : ∃ x, we (a * a) = x := ⟨_, rfl⟩
  rw [hka, hke] at HWk HROOT
  clear hka hke
  obtain ⟨ga, hga⟩ : ∃ x, wm (a.natAbs : Int) = x := ⟨_, rfl⟩
  obtain ⟨ge, hge⟩ : ∃ x, we (a.natAbs : Int) = x := ⟨_, rfl⟩
  rw [hga, hge] at HWg HROOT
  clear hga hge
  obtain ⟨nn, hnn⟩ : ∃ x : Int, (a.natAbs : Int) = x := ⟨_, rfl⟩
  rw [hnn] at HWg hmx hmx2
  clear hnn
  go_enter Tryz.func14, Tryz.ntmps14
  go_upto_region 11 with (first
    | (go_at_call 69; (with_reducible refine (HWp.out _ HT.out).mono ?_); rintro en w2 ⟨rfl, hbz⟩; have c0 := keep_cell hbz c0; have c1 := keep_cell hbz c1; have z0 := keep_cell hbz z0; have z1 := keep_cell hbz z1; have Ac0 := fun o => keep_cell ((Below.refl _ _).alloc (Nat.le_refl _) o) c0; have Ac1 := fun o => keep_cell ((Below.refl _ _).alloc (Nat.le_refl _) o) c1; have Az0 := fun o => keep_cell ((Below.refl _ _).alloc (Nat.le_refl _) o) z0; have Az1 := fun o => keep_cell ((Below.refl _ _).alloc (Nat.le_refl _) o) z1; have HB := Lib.hid hbz; clear hbz)
    | (go_at_call 69; (with_reducible refine (HWq.out _ (HT.out.below (belowA HB.out _))).mono ?_); rintro en w3 ⟨rfl, hbz⟩; have c0 := keep_cell hbz (keep_cell ((Below.refl _ _).alloc (Nat.le_refl _) _) c0); have c1 := keep_cell hbz (keep_cell ((Below.refl _ _).alloc (Nat.le_refl _) _) c1); have z0 := keep_cell hbz (keep_cell ((Below.refl _ _).alloc (Nat.le_refl _) _) z0); have z1 := keep_cell hbz (keep_cell ((Below.refl _ _).alloc (Nat.le_refl _) _) z1); obtain ⟨p0, p1⟩ := two_cells (heapB hbz (heap_alloc_new _ _)); have Ac0 := fun o => keep_cell ((Below.refl _ _).alloc (Nat.le_refl _) o) c0; have Ac1 := fun o => keep_cell ((Below.refl _ _).alloc (Nat.le_refl _) o) c1; have Az0 := fun o => keep_cell ((Below.refl _ _).alloc (Nat.le_refl _) o) z0; have Az1 := fun o => keep_cell ((Below.refl _ _).alloc (Nat.le_refl _) o) z1; have Ap0 := fun o => keep_cell ((Below.refl _ _).alloc (Nat.le_refl _) o) p0; have Ap1 := fun o => keep_cell ((Below.refl _ _).alloc (Nat.le_refl _) o) p1; have HB := Lib.hid (belowT (belowA HB.out _) hbz); clear hbz)
    | (go_at_call 69; (with_reducible refine (HWs.out _ (HT.out.below (belowA HB.out _))).mono ?_); rintro en w4 ⟨rfl, hbz⟩; have c0 := keep_cell hbz (keep_cell ((Below.refl _ _).alloc (Nat.le_refl _) _) c0); have c1 := keep_cell hbz (keep_cell ((Below.refl _ _).alloc (Nat.le_refl _) _) c1); have z0 := keep_cell hbz (keep_cell ((Below.refl _ _).alloc (Nat.le_refl _) _) z0); have z1 := keep_cell hbz (keep_cell ((Below.refl _ _).alloc (Nat.le_refl _) _) z1); have p0 := keep_cell hbz (keep_cell ((Below.refl _ _).alloc (Nat.le_refl _) _) p0); have p1 := keep_cell hbz (keep_cell ((Below.refl _ _).alloc (Nat.le_refl _) _) p1); obtain ⟨q0, q1⟩ := two_cells (heapB hbz (heap_alloc_new _ _)); have Ac0 := fun o => keep_cell ((Below.refl _ _).alloc (Nat.le_refl _) o) c0; have Ac1 := fun o => keep_cell ((Below.refl _ _).alloc (Nat.le_refl _) o) c1; have Az0 := fun o => keep_cell ((Below.refl _ _).alloc (Nat.le_refl _) o) z0; have Az1 := fun o => keep_cell ((Below.refl _ _).alloc (Nat.le_refl _) o) z1; have Ap0 := fun o => keep_cell ((Below.refl _ _).alloc (Nat.le_refl _) o) p0; have Ap1 := fun o => keep_cell ((Below.refl _ _).alloc (Nat.le_refl _) o) p1; have Aq0 := fun o => keep_cell ((Below.refl _ _).alloc (Nat.le_refl _) o) q0; have Aq1 := fun o => keep_cell ((Below.refl _ _).alloc (Nat.le_refl _) o) q1; have HB := Lib.hid (belowT (belowA HB.out _) hbz); clear hbz)
    | (go_at_call 69; (with_reducible refine (HWl.out _ (HT.out.below (belowA HB.out _))).mono ?_); rintro en w5 ⟨rfl, hbz⟩; have c0 := keep_cell hbz (keep_cell ((Below.refl _ _).alloc (Nat.le_refl _) _) c0); have c1 := keep_cell hbz (keep_cell ((Below.refl _ _).alloc (Nat.le_refl _) _) c1); have z0 := keep_cell hbz (keep_cell ((Below.refl _ _).alloc (Nat.le_refl _) _) z0); have z1 := keep_cell hbz (keep_cell ((Below.refl _ _).alloc (Nat.le_refl _) _) z1); have p0 := keep_cell hbz (keep_cell ((Below.refl _ _).alloc (Nat.le_refl _) _) p0); have p1 := keep_cell hbz (keep_cell ((Below.refl _ _).alloc (Nat.le_refl _) _) p1); have q0 := keep_cell hbz (keep_cell ((Below.refl _ _).alloc (Nat.le_refl _) _) q0); have q1 := keep_cell hbz (keep_cell ((Below.refl _ _).alloc (Nat.le_refl _) _) q1); obtain ⟨s0, s1⟩ := two_cells (heapB hbz (heap_alloc_new _ _)); have Ac0 := fun o => keep_cell ((Below.refl _ _).alloc (Nat.le_refl _) o) c0; have Ac1 := fun o => keep_cell ((Below.refl _ _).alloc (Nat.le_refl _) o) c1; have Az0 := fun o => keep_cell ((Below.refl _ _).alloc (Nat.le_refl _) o) z0; have Az1 := fun o => keep_cell ((Below.refl _ _).alloc (Nat.le_refl _) o) z1; have Ap0 := fun o => keep_cell ((Below.refl _ _).alloc (Nat.le_refl _) o) p0; have Ap1 := fun o => keep_cell ((Below.refl _ _).alloc (Nat.le_refl _) o) p1; have Aq0 := fun o => keep_cell ((Below.refl _ _).alloc (Nat.le_refl _) o) q0; have Aq1 := fun o => keep_cell ((Below.refl _ _).alloc (Nat.le_refl _) o) q1; have As0 := fun o => keep_cell ((Below.refl _ _).alloc (Nat.le_refl _) o) s0; have As1 := fun o => keep_cell ((Below.refl _ _).alloc (Nat.le_refl _) o) s1; have HB := Lib.hid (belowT (belowA HB.out _) hbz); clear hbz)
    | (go_at_call 69; (with_reducible refine (HWm.out _ (HT.out.below (belowA HB.out _))).mono ?_); rintro en w6 ⟨rfl, hbz⟩; have c0 := keep_cell hbz (keep_cell ((Below.refl _ _).alloc (Nat.le_refl _) _) c0); have c1 := keep_cell hbz (keep_cell ((Below.refl _ _).alloc (Nat.le_refl _) _) c1); have z0 := keep_cell hbz (keep_cell ((Below.refl _ _).alloc (Nat.le_refl _) _) z0); have z1 := keep_cell hbz (keep_cell ((Below.refl _ _).alloc (Nat.le_refl _) _) z1); have p0 := keep_cell hbz (keep_cell ((Below.refl _ _).alloc (Nat.le_refl _) _) p0); have p1 := keep_cell hbz (keep_cell ((Below.refl _ _).alloc (Nat.le_refl _) _) p1); have q0 := keep_cell hbz (keep_cell ((Below.refl _ _).alloc (Nat.le_refl _) _) q0); have q1 := keep_cell hbz (keep_cell ((Below.refl _ _).alloc (Nat.le_refl _) _) q1); have s0 := keep_cell hbz (keep_cell ((Below.refl _ _).alloc (Nat.le_refl _) _) s0); have s1 := keep_cell hbz (keep_cell ((Below.refl _ _).alloc (Nat.le_refl _) _) s1); obtain ⟨l0, l1⟩ := two_cells (heapB hbz (heap_alloc_new _ _)); have Ac0 := fun o => keep_cell ((Below.refl _ _).alloc (Nat.le_refl _) o) c0; have Ac1 := fun o => keep_cell ((Below.refl _ _).alloc (Nat.le_refl _) o) c1; have Az0 := fun o => keep_cell ((Below.refl _ _).alloc (Nat.le_refl _) o) z0; have Az1 := fun o => keep_cell ((Below.refl _ _).alloc (Nat.le_refl _) o) z1; have Ap0 := fun o => keep_cell ((Below.refl _ _).alloc (Nat.le_refl _) o) p0; have Ap1 := fun o => keep_cell ((Below.refl _ _).alloc (Nat.le_refl _) o) p1; have Aq0 := fun o => keep_cell ((Below.refl _ _).alloc (Nat.le_refl _) o) q0; have Aq1 := fun o => keep_cell ((Below.refl _ _).alloc (Nat.le_refl _) o) q1; have As0 := fun o => keep_cell ((Below.refl _ _).alloc (Nat.le_refl _) o) s0; have As1 := fun o => keep_cell ((Below.refl _ _).alloc (Nat.le_refl _) o) s1; have Al0 := fun o => keep_cell ((Below.refl _ _).alloc (Nat.le_refl _) o) l0; have Al1 := fun o => keep_cell ((Below.refl _ _).alloc (Nat.le_refl _) o) l1; have HB := Lib.hid (belowT (belowA HB.out _) hbz); clear hbz)
    | (go_at_call 34; (with_reducible refine (HADD.out _).mono ?_); rintro en w7 ⟨rfl, hbz⟩; have c0 := keep_cell hbz (keep_cell ((Below.refl _ _).alloc (Nat.le_refl _) _) c0); have c1 := keep_cell hbz (keep_cell ((Below.refl _ _).alloc (Nat.le_refl _) _) c1); have z0 := keep_cell hbz (keep_cell ((Below.refl _ _).alloc (Nat.le_refl _) _) z0); have z1 := keep_cell hbz (keep_cell ((Below.refl _ _).alloc (Nat.le_refl _) _) z1); have p0 := keep_cell hbz (keep_cell ((Below.refl _ _).alloc (Nat.le_refl _) _) p0); have p1 := keep_cell hbz (keep_cell ((Below.refl _ _).alloc (Nat.le_refl _) _) p1); have q0 := keep_cell hbz (keep_cell ((Below.refl _ _).alloc (Nat.le_refl _) _) q0); have q1 := keep_cell hbz (keep_cell ((Below.refl _ _).alloc (Nat.le_refl _) _) q1); have s0 := keep_cell hbz (keep_cell ((Below.refl _ _).alloc (Nat.le_refl _) _) s0); have s1 := keep_cell hbz (keep_cell ((Below.refl _ _).alloc (Nat.le_refl _) _) s1); have l0 := keep_cell hbz (keep_cell ((Below.refl _ _).alloc (Nat.le_refl _) _) l0); have l1 := keep_cell hbz (keep_cell ((Below.refl _ _).alloc (Nat.le_refl _) _) l1); obtain ⟨m0, m1⟩ := two_cells (heapB hbz (heap_alloc_new _ _)); have Ac0 := fun o => keep_cell ((Below.refl _ _).alloc (Nat.le_refl _) o) c0; have Ac1 := fun o => keep_cell ((Below.refl _ _).alloc (Nat.le_refl _) o) c1; have Az0 := fun o => keep_cell ((Below.refl _ _).alloc (Nat.le_refl _) o) z0; have Az1 := fun o => keep_cell ((Below.refl _ _).alloc (Nat.le_refl _) o) z1; have Ap0 := fun o => keep_cell ((Below.refl _ _).alloc (Nat.le_refl _) o) p0; have Ap1 := fun o => keep_cell ((Below.refl _ _).alloc (Nat.le_refl _) o) p1; have Aq0 := fun o => keep_cell ((Below.refl _ _).alloc (Nat.le_refl _) o) q0; have Aq1 := fun o => keep_cell ((Below.refl _ _).alloc (Nat.le_refl _) o) q1; have As0 := fun o => keep_cell ((Below.refl _ _).alloc (Nat.le_refl _) o) s0; have As1 := fun o => keep_cell ((Below.refl _ _).alloc (Nat.le_refl _) o) s1; have Al0 := fun o => keep_cell ((Below.refl _ _).alloc (Nat.le_refl _) o) l0; have Al1 := fun o => keep_cell ((Below.refl _ _).alloc (Nat.le_refl _) o) l1; have Am0 := fun o => keep_cell ((Below.refl _ _).alloc (Nat.le_refl _) o) m0; have Am1 := fun o => keep_cell ((Below.refl _ _).alloc (Nat.le_refl _) o) m1; have HB := Lib.hid (belowT (belowA HB.out _) hbz); clear hbz)
    | (go_at_call 35; (with_reducible refine (HSUB.out _).mono ?_); rintro en w8 ⟨rfl, hbz⟩; have c0 := keep_cell hbz (keep_cell ((Below.refl _ _).alloc (Nat.le_refl _) _) c0); have c1 := keep_cell hbz (keep_cell ((Below.refl _ _).alloc (Nat.le_refl _) _) c1); have z0 := keep_cell hbz (keep_cell ((Below.refl _ _).alloc (Nat.le_refl _) _) z0); have z1 := keep_cell hbz (keep_cell ((Below.refl _ _).alloc (Nat.le_refl _) _) z1); have p0 := keep_cell hbz (keep_cell ((Below.refl _ _).alloc (Nat.le_refl _) _) p0); have p1 := keep_cell hbz (keep_cell ((Below.refl _ _).alloc (Nat.le_refl _) _) p1); have q0 := keep_cell hbz (keep_cell ((Below.refl _ _).alloc (Nat.le_refl _) _) q0); have q1 := keep_cell hbz (keep_cell ((Below.refl _ _).alloc (Nat.le_refl _) _) q1); have s0 := keep_cell hbz (keep_cell ((Below.refl _ _).alloc (Nat.le_refl _) _) s0); have s1 := keep_cell hbz (keep_cell ((Below.refl _ _).alloc (Nat.le_refl _) _) s1); have l0 := keep_cell hbz (keep_cell ((Below.refl _ _).alloc (Nat.le_refl _) _) l0); have l1 := keep_cell hbz (keep_cell ((Below.refl _ _).alloc (Nat.le_refl _) _) l1); have m0 := keep_cell hbz (keep_cell ((Below.refl _ _).alloc (Nat.le_refl _) _) m0); have m1 := keep_cell hbz (keep_cell ((Below.refl _ _).alloc (Nat.le_refl _) _) m1); obtain ⟨r0, r1⟩ := two_cells (heapB hbz (heap_alloc_new _ _)); have Ac0 := fun o => keep_cell ((Below.refl _ _).alloc (Nat.le_refl _) o) c0; have Ac1 := fun o => keep_cell ((Below.refl _ _).alloc (Nat.le_refl _) o) c1; have Az0 := fun o => keep_cell ((Below.refl _ _).alloc (Nat.le_refl _) o) z0; have Az1 := fun o => keep_cell ((Below.refl _ _).alloc (Nat.le_refl _) o) z1; have Ap0 := fun o => keep_cell ((Below.refl _ _).alloc (Nat.le_refl _) o) p0; have Ap1 := fun o => keep_cell ((Below.refl _ _).alloc (Nat.le_refl _) o) p1; have Aq0 := fun o => keep_cell ((Below.refl _ _).alloc (Nat.le_refl _) o) q0; have Aq1 := fun o => keep_cell ((Below.refl _ _).alloc (Nat.le_refl _) o) q1; have As0 := fun o => keep_cell ((Below.refl _ _).alloc (Nat.le_refl _) o) s0; have As1 := fun o => keep_cell ((Below.refl _ _).alloc (Nat.le_refl _) o) s1; have Al0 := fun o => keep_cell ((Below.refl _ _).alloc (Nat.le_refl _) o) l0; have Al1 := fun o => keep_cell ((Below.refl _ _).alloc (Nat.le_refl _) o) l1; have Am0 := fun o => keep_cell ((Below.refl _ _).alloc (Nat.le_refl _) o) m0; have Am1 := fun o => keep_cell ((Below.refl _ _).alloc (Nat.le_refl _) o) m1; have Ar0 := fun o => keep_cell ((Below.refl _ _).alloc (Nat.le_refl _) o) r0; have Ar1 := fun o => keep_cell ((Below.refl _ _).alloc (Nat.le_refl _) o) r1; have HB := Lib.hid (belowT (belowA HB.out _) hbz); clear hbz)
    | (go_at_call 46; (with_reducible refine (HMUL.out _).mono ?_); rintro en w9 ⟨rfl, hbz⟩; have c0 := keep_cell hbz (keep_cell ((Below.refl _ _).alloc (Nat.le_refl _) _) c0); have c1 := keep_cell hbz (keep_cell ((Below.refl _ _).alloc (Nat.le_refl _) _) c1); have z0 := keep_cell hbz (keep_cell ((Below.refl _ _).alloc (Nat.le_refl _) _) z0); have z1 := keep_cell hbz (keep_cell ((Below.refl _ _).alloc (Nat.le_refl _) _) z1); have s0 := keep_cell hbz (keep_cell ((Below.refl _ _).alloc (Nat.le_refl _) _) s0); have s1 := keep_cell hbz (keep_cell ((Below.refl _ _).alloc (Nat.le_refl _) _) s1); have l0 := keep_cell hbz (keep_cell ((Below.refl _ _).alloc (Nat.le_refl _) _) l0); have l1 := keep_cell hbz (keep_cell ((Below.refl _ _).alloc (Nat.le_refl _) _) l1); have m0 := keep_cell hbz (keep_cell ((Below.refl _ _).alloc (Nat.le_refl _) _) m0); have m1 := keep_cell hbz (keep_cell ((Below.refl _ _).alloc (Nat.le_refl _) _) m1); have r0 := keep_cell hbz (keep_cell ((Below.refl _ _).alloc (Nat.le_refl _) _) r0); have r1 := keep_cell hbz (keep_cell ((Below.refl _ _).alloc (Nat.le_refl _) _) r1); obtain ⟨t0, t1⟩ := two_cells (heapB hbz (heap_alloc_new _ _)); have Ac0 := fun o => keep_cell ((Below.refl _ _).alloc (Nat.le_refl _) o) c0; have Ac1 := fun o => keep_cell ((Below.refl _ _).alloc (Nat.le_refl _) o) c1; have Az0 := fun o => keep_cell ((Below.refl _ _).alloc (Nat.le_refl _) o) z0; have Az1 := fun o => keep_cell ((Below.refl _ _).alloc (Nat.le_refl _) o) z1; have As0 := fun o => keep_cell ((Below.refl _ _).alloc (Nat.le_refl _) o) s0; have As1 := fun o => keep_cell ((Below.refl _ _).alloc (Nat.le_refl _) o) s1; have Al0 := fun o => keep_cell ((Below.refl _ _).alloc (Nat.le_refl _) o) l0; have Al1 := fun o => keep_cell ((Below.refl _ _).alloc (Nat.le_refl _) o) l1; have Am0 := fun o => keep_cell ((Below.refl _ _).alloc (Nat.le_refl _) o) m0; have Am1 := fun o => keep_cell ((Below.refl _ _).alloc (Nat.le_refl _) o) m1; have Ar0 := fun o => keep_cell ((Below.refl _ _).alloc (Nat.le_refl _) o) r0; have Ar1 := fun o => keep_cell ((Below.refl _ _).alloc (Nat.le_refl _) o) r1; have At0 := fun o => keep_cell ((Below.refl _ _).alloc (Nat.le_refl _) o) t0; have At1 := fun o => keep_cell ((Below.refl _ _).alloc (Nat.le_refl _) o) t1; have HB := Lib.hid (belowT (belowA HB.out _) hbz); clear hbz))
  obtain ⟨Z1, hZ1⟩ : ∃ Z, w9.alloc (.cells #[.int .i64 ma, .int .i64 me] 23) = Z := ⟨_, rfl⟩
  rw [hZ1]
  have c0 := (show Z1.cell? _ = _ from hZ1 ▸ Ac0 _)
  have c1 := (show Z1.cell? _ = _ from hZ1 ▸ Ac1 _)
  have z0 := (show Z1.cell? _ = _ from hZ1 ▸ Az0 _)
  have z1 := (show Z1.cell? _ = _ from hZ1 ▸ Az1 _)
  have s0 := (show Z1.cell? _ = _ from hZ1 ▸ As0 _)
  have s1 := (show Z1.cell? _ = _ from hZ1 ▸ As1 _)
  have l0 := (show Z1.cell? _ = _ from hZ1 ▸ Al0 _)
  have l1 := (show Z1.cell? _ = _ from hZ1 ▸ Al1 _)
  have m0 := (show Z1.cell? _ = _ from hZ1 ▸ Am0 _)
  have m1 := (show Z1.cell? _ = _ from hZ1 ▸ Am1 _)
  have r0 := (show Z1.cell? _ = _ from hZ1 ▸ Ar0 _)
  have r1 := (show Z1.cell? _ = _ from hZ1 ▸ Ar1 _)
  have t0 := (show Z1.cell? _ = _ from hZ1 ▸ At0 _)
  have t1 := (show Z1.cell? _ = _ from hZ1 ▸ At1 _)
  have hnu := heap_alloc_new w9 (.cells #[.int .i64 ma, .int .i64 me] 23)
  rw [hZ1] at hnu
  obtain ⟨u0, u1⟩ := two_cells hnu
  have HB := Lib.hid (belowA HB.out (.cells #[.int .i64 ma, .int .i64 me] 23))
  rw [hZ1] at HB
  clear hZ1 Ac0 Ac1 Az0 Az1 As0 As1 Al0 Al1 Am0 Am1 Ar0 Ar1 At0 At1
  clear hnu
  go_upto_region 18 with (first
    | (go_at_call 69; (with_reducible refine (HWk.out _ (HT.out.below HB.out)).mono ?_); rintro en w12 ⟨rfl, hbz⟩; have c0 := keep_cell hbz c0; have c1 := keep_cell hbz c1; have z0 := keep_cell hbz z0; have z1 := keep_cell hbz z1; have Ac0 := fun o => keep_cell ((Below.refl _ _).alloc (Nat.le_refl _) o) c0; have Ac1 := fun o => keep_cell ((Below.refl _ _).alloc (Nat.le_refl _) o) c1; have Az0 := fun o => keep_cell ((Below.refl _ _).alloc (Nat.le_refl _) o) z0; have Az1 := fun o => keep_cell ((Below.refl _ _).alloc (Nat.le_refl _) o) z1; have HB := Lib.hid (belowT HB.out hbz); clear hbz)
    | (go_at_call 48; (with_reducible refine (HROOT.out _).mono ?_); rintro en w13 ⟨rfl, hbz⟩; have c0 := keep_cell hbz (keep_cell ((Below.refl _ _).alloc (Nat.le_refl _) _) c0); have c1 := keep_cell hbz (keep_cell ((Below.refl _ _).alloc (Nat.le_refl _) _) c1); have z0 := keep_cell hbz (keep_cell ((Below.refl _ _).alloc (Nat.le_refl _) _) z0); have z1 := keep_cell hbz (keep_cell ((Below.refl _ _).alloc (Nat.le_refl _) _) z1); obtain ⟨k0, k1⟩ := two_cells (heapB hbz (heap_alloc_new _ _)); have Ac0 := fun o => keep_cell ((Below.refl _ _).alloc (Nat.le_refl _) o) c0; have Ac1 := fun o => keep_cell ((Below.refl _ _).alloc (Nat.le_refl _) o) c1; have Az0 := fun o => keep_cell ((Below.refl _ _).alloc (Nat.le_refl _) o) z0; have Az1 := fun o => keep_cell ((Below.refl _ _).alloc (Nat.le_refl _) o) z1; have Ak0 := fun o => keep_cell ((Below.refl _ _).alloc (Nat.le_refl _) o) k0; have Ak1 := fun o => keep_cell ((Below.refl _ _).alloc (Nat.le_refl _) o) k1; have HB := Lib.hid (belowT (belowA HB.out _) hbz); clear hbz)
    | (go_at_call 69; (with_reducible refine (HWg.out _ (HT.out.below (belowA HB.out _))).mono ?_); rintro en w14 ⟨rfl, hbz⟩; have c0 := keep_cell hbz (keep_cell ((Below.refl _ _).alloc (Nat.le_refl _) _) c0); have c1 := keep_cell hbz (keep_cell ((Below.refl _ _).alloc (Nat.le_refl _) _) c1); have z0 := keep_cell hbz (keep_cell ((Below.refl _ _).alloc (Nat.le_refl _) _) z0); have z1 := keep_cell hbz (keep_cell ((Below.refl _ _).alloc (Nat.le_refl _) _) z1); obtain ⟨g0, g1⟩ := two_cells (heapB hbz (heap_alloc_new _ _)); have Ac0 := fun o => keep_cell ((Below.refl _ _).alloc (Nat.le_refl _) o) c0; have Ac1 := fun o => keep_cell ((Below.refl _ _).alloc (Nat.le_refl _) o) c1; have Az0 := fun o => keep_cell ((Below.refl _ _).alloc (Nat.le_refl _) o) z0; have Az1 := fun o => keep_cell ((Below.refl _ _).alloc (Nat.le_refl _) o) z1; have Ag0 := fun o => keep_cell ((Below.refl _ _).alloc (Nat.le_refl _) o) g0; have Ag1 := fun o => keep_cell ((Below.refl _ _).alloc (Nat.le_refl _) o) g1; have HB := Lib.hid (belowT (belowA HB.out _) hbz); clear hbz))
  obtain ⟨Z2, hZ2⟩ : ∃ Z, w14.alloc (.cells #[.int .i64 ga, .int .i64 ge] 23) = Z := ⟨_, rfl⟩
  rw [hZ2]
  have c0 := (show Z2.cell? _ = _ from hZ2 ▸ Ac0 _)
  have c1 := (show Z2.cell? _ = _ from hZ2 ▸ Ac1 _)
  have z0 := (show Z2.cell? _ = _ from hZ2 ▸ Az0 _)
  have z1 := (show Z2.cell? _ = _ from hZ2 ▸ Az1 _)
  have HB := Lib.hid (belowA HB.out (.cells #[.int .i64 ga, .int .i64 ge] 23))
  rw [hZ2] at HB
  clear hZ2 Ac0 Ac1 Az0 Az1
  clear hw1 hw2 hw3 hw4 hw5 hmx hmx2 HADD HSUB HMUL HROOT HWp HWq HWs HWl HWm HWk HWg ha1 ha2 hb1 hb2 g0 g1
  have HVX := Lib.hid (fun w' => validR_c xm xe w' hx0 hx1)
  have HVY := Lib.hid (fun w' => validR_c ym ye w' hy0 hy1)
  obtain ⟨t, ht⟩ : ∃ t : Bool, (t = true ↔ ¬ (RV xm.natAbs xe ∧ RV ym.natAbs ye ∧ ¬ xe < -99 ∧ ¬ ye < -99 ∧ ¬ 80 < xe ∧ ¬ 80 < ye ∧ ¬ xm ≤ 0 ∧ ¬ ym ≤ 0)) := ⟨decide (¬ (RV xm.natAbs xe ∧ RV ym.natAbs ye ∧ ¬ xe < -99 ∧ ¬ ye < -99 ∧ ¬ 80 < xe ∧ ¬ 80 < ye ∧ ¬ xm ≤ 0 ∧ ¬ ym ≤ 0)), decide_eq_true_iff⟩
  have HTT := Lib.hid ht
  clear ht
  have HBZ := HB
  clear HB
  go_cut [216] from 179 to 216 (fun v wx => v = .bool t ∧ Hid (Below Z2.heap.size Z2 wx))
  case first =>
    have HB := Lib.hid (Below.refl Z2.heap.size Z2)
    by_cases g1 : RV xm.natAbs xe
    rotate_left
    · obtain rfl : t = true := HTT.out.2 (fun g => g1 (g.1))
      rw [show decide (RV xm.natAbs xe) = false from decide_eq_false g1] at HVX
      clear g1
      go_wp2_with (first
        | (go_at_call 33; (with_reducible refine (HVX.out _).mono ?_); rintro en w15 ⟨rfl, hbz⟩; have c0 := keep_cell hbz c0; have c1 := keep_cell hbz c1; have z0 := keep_cell hbz z0; have z1 := keep_cell hbz z1; have Ac0 := fun o => keep_cell ((Below.refl _ _).alloc (Nat.le_refl _) o) c0; have Ac1 := fun o => keep_cell ((Below.refl _ _).alloc (Nat.le_refl _) o) c1; have Az0 := fun o => keep_cell ((Below.refl _ _).alloc (Nat.le_refl _) o) z0; have Az1 := fun o => keep_cell ((Below.refl _ _).alloc (Nat.le_refl _) o) z1; have HB := Lib.hid (belowT HB.out hbz); clear hbz)
        | (go_at_call 33; (with_reducible refine (HVY.out _).mono ?_); rintro en w16 ⟨rfl, hbz⟩; have c0 := keep_cell hbz c0; have c1 := keep_cell hbz c1; have z0 := keep_cell hbz z0; have z1 := keep_cell hbz z1; have Ac0 := fun o => keep_cell ((Below.refl _ _).alloc (Nat.le_refl _) o) c0; have Ac1 := fun o => keep_cell ((Below.refl _ _).alloc (Nat.le_refl _) o) c1; have Az0 := fun o => keep_cell ((Below.refl _ _).alloc (Nat.le_refl _) o) z0; have Az1 := fun o => keep_cell ((Below.refl _ _).alloc (Nat.le_refl _) o) z1; have HB := Lib.hid (belowT HB.out hbz); clear hbz))
      go_meet
      exact ⟨rfl, HB⟩
    rw [show decide (RV xm.natAbs xe) = true from decide_eq_true g1] at HVX
    by_cases g2 : RV ym.natAbs ye
    rotate_left
    · obtain rfl : t = true := HTT.out.2 (fun g => g2 (g.2.1))
      rw [show decide (RV ym.natAbs ye) = false from decide_eq_false g2] at HVY
      clear g1 g2
      go_wp2_with (first
        | (go_at_call 33; (with_reducible refine (HVX.out _).mono ?_); rintro en w15 ⟨rfl, hbz⟩; have c0 := keep_cell hbz c0; have c1 := keep_cell hbz c1; have z0 := keep_cell hbz z0; have z1 := keep_cell hbz z1; have Ac0 := fun o => keep_cell ((Below.refl _ _).alloc (Nat.le_refl _) o) c0; have Ac1 := fun o => keep_cell ((Below.refl _ _).alloc (Nat.le_refl _) o) c1; have Az0 := fun o => keep_cell ((Below.refl _ _).alloc (Nat.le_refl _) o) z0; have Az1 := fun o => keep_cell ((Below.refl _ _).alloc (Nat.le_refl _) o) z1; have HB := Lib.hid (belowT HB.out hbz); clear hbz)
        | (go_at_call 33; (with_reducible refine (HVY.out _).mono ?_); rintro en w16 ⟨rfl, hbz⟩; have c0 := keep_cell hbz c0; have c1 := keep_cell hbz c1; have z0 := keep_cell hbz z0; have z1 := keep_cell hbz z1; have Ac0 := fun o => keep_cell ((Below.refl _ _).alloc (Nat.le_refl _) o) c0; have Ac1 := fun o => keep_cell ((Below.refl _ _).alloc (Nat.le_refl _) o) c1; have Az0 := fun o => keep_cell ((Below.refl _ _).alloc (Nat.le_refl _) o) z0; have Az1 := fun o => keep_cell ((Below.refl _ _).alloc (Nat.le_refl _) o) z1; have HB := Lib.hid (belowT HB.out hbz); clear hbz))
      go_meet
      exact ⟨rfl, HB⟩
    rw [show decide (RV ym.natAbs ye) = true from decide_eq_true g2] at HVY
    by_cases g3 : ¬ xe < -99
    rotate_left
    · obtain rfl : t = true := HTT.out.2 (fun g => g3 (g.2.2.1))
      have g3 := Decidable.not_not.1 g3
      clear g1 g2
      go_wp2_with (first
        | (go_at_call 33; (with_reducible refine (HVX.out _).mono ?_); rintro en w15 ⟨rfl, hbz⟩; have c0 := keep_cell hbz c0; have c1 := keep_cell hbz c1; have z0 := keep_cell hbz z0; have z1 := keep_cell hbz z1; have Ac0 := fun o => keep_cell ((Below.refl _ _).alloc (Nat.le_refl _) o) c0; have Ac1 := fun o => keep_cell ((Below.refl _ _).alloc (Nat.le_refl _) o) c1; have Az0 := fun o => keep_cell ((Below.refl _ _).alloc (Nat.le_refl _) o) z0; have Az1 := fun o => keep_cell ((Below.refl _ _).alloc (Nat.le_refl _) o) z1; have HB := Lib.hid (belowT HB.out hbz); clear hbz)
        | (go_at_call 33; (with_reducible refine (HVY.out _).mono ?_); rintro en w16 ⟨rfl, hbz⟩; have c0 := keep_cell hbz c0; have c1 := keep_cell hbz c1; have z0 := keep_cell hbz z0; have z1 := keep_cell hbz z1; have Ac0 := fun o => keep_cell ((Below.refl _ _).alloc (Nat.le_refl _) o) c0; have Ac1 := fun o => keep_cell ((Below.refl _ _).alloc (Nat.le_refl _) o) c1; have Az0 := fun o => keep_cell ((Below.refl _ _).alloc (Nat.le_refl _) o) z0; have Az1 := fun o => keep_cell ((Below.refl _ _).alloc (Nat.le_refl _) o) z1; have HB := Lib.hid (belowT HB.out hbz); clear hbz))
      go_meet
      exact ⟨rfl, HB⟩
    by_cases g4 : ¬ ye < -99
    rotate_left
    · obtain rfl : t = true := HTT.out.2 (fun g => g4 (g.2.2.2.1))
      have g4 := Decidable.not_not.1 g4
      clear g1 g2
      go_wp2_with (first
        | (go_at_call 33; (with_reducible refine (HVX.out _).mono ?_); rintro en w15 ⟨rfl, hbz⟩; have c0 := keep_cell hbz c0; have c1 := keep_cell hbz c1; have z0 := keep_cell hbz z0; have z1 := keep_cell hbz z1; have Ac0 := fun o => keep_cell ((Below.refl _ _).alloc (Nat.le_refl _) o) c0; have Ac1 := fun o => keep_cell ((Below.refl _ _).alloc (Nat.le_refl _) o) c1; have Az0 := fun o => keep_cell ((Below.refl _ _).alloc (Nat.le_refl _) o) z0; have Az1 := fun o => keep_cell ((Below.refl _ _).alloc (Nat.le_refl _) o) z1; have HB := Lib.hid (belowT HB.out hbz); clear hbz)
        | (go_at_call 33; (with_reducible refine (HVY.out _).mono ?_); rintro en w16 ⟨rfl, hbz⟩; have c0 := keep_cell hbz c0; have c1 := keep_cell hbz c1; have z0 := keep_cell hbz z0; have z1 := keep_cell hbz z1; have Ac0 := fun o => keep_cell ((Below.refl _ _).alloc (Nat.le_refl _) o) c0; have Ac1 := fun o => keep_cell ((Below.refl _ _).alloc (Nat.le_refl _) o) c1; have Az0 := fun o => keep_cell ((Below.refl _ _).alloc (Nat.le_refl _) o) z0; have Az1 := fun o => keep_cell ((Below.refl _ _).alloc (Nat.le_refl _) o) z1; have HB := Lib.hid (belowT HB.out hbz); clear hbz))
      go_meet
      exact ⟨rfl, HB⟩
    by_cases g5 : ¬ 80 < xe
    rotate_left
    · obtain rfl : t = true := HTT.out.2 (fun g => g5 (g.2.2.2.2.1))
      have g5 := Decidable.not_not.1 g5
      clear g1 g2
      go_wp2_with (first
        | (go_at_call 33; (with_reducible refine (HVX.out _).mono ?_); rintro en w15 ⟨rfl, hbz⟩; have c0 := keep_cell hbz c0; have c1 := keep_cell hbz c1; have z0 := keep_cell hbz z0; have z1 := keep_cell hbz z1; have Ac0 := fun o => keep_cell ((Below.refl _ _).alloc (Nat.le_refl _) o) c0; have Ac1 := fun o => keep_cell ((Below.refl _ _).alloc (Nat.le_refl _) o) c1; have Az0 := fun o => keep_cell ((Below.refl _ _).alloc (Nat.le_refl _) o) z0; have Az1 := fun o => keep_cell ((Below.refl _ _).alloc (Nat.le_refl _) o) z1; have HB := Lib.hid (belowT HB.out hbz); clear hbz)
        | (go_at_call 33; (with_reducible refine (HVY.out _).mono ?_); rintro en w16 ⟨rfl, hbz⟩; have c0 := keep_cell hbz c0; have c1 := keep_cell hbz c1; have z0 := keep_cell hbz z0; have z1 := keep_cell hbz z1; have Ac0 := fun o => keep_cell ((Below.refl _ _).alloc (Nat.le_refl _) o) c0; have Ac1 := fun o => keep_cell ((Below.refl _ _).alloc (Nat.le_refl _) o) c1; have Az0 := fun o => keep_cell ((Below.refl _ _).alloc (Nat.le_refl _) o) z0; have Az1 := fun o => keep_cell ((Below.refl _ _).alloc (Nat.le_refl _) o) z1; have HB := Lib.hid (belowT HB.out hbz); clear hbz))
      go_meet
      exact ⟨rfl, HB⟩
    by_cases g6 : ¬ 80 < ye
    rotate_left
    · obtain rfl : t = true := HTT.out.2 (fun g => g6 (g.2.2.2.2.2.1))
      have g6 := Decidable.not_not.1 g6
      clear g1 g2
      go_wp2_with (first
        | (go_at_call 33; (with_reducible refine (HVX.out _).mono ?_); rintro en w15 ⟨rfl, hbz⟩; have c0 := keep_cell hbz c0; have c1 := keep_cell hbz c1; have z0 := keep_cell hbz z0; have z1 := keep_cell hbz z1; have Ac0 := fun o => keep_cell ((Below.refl _ _).alloc (Nat.le_refl _) o) c0; have Ac1 := fun o => keep_cell ((Below.refl _ _).alloc (Nat.le_refl _) o) c1; have Az0 := fun o => keep_cell ((Below.refl _ _).alloc (Nat.le_refl _) o) z0; have Az1 := fun o => keep_cell ((Below.refl _ _).alloc (Nat.le_refl _) o) z1; have HB := Lib.hid (belowT HB.out hbz); clear hbz)
        | (go_at_call 33; (with_reducible refine (HVY.out _).mono ?_); rintro en w16 ⟨rfl, hbz⟩; have c0 := keep_cell hbz c0; have c1 := keep_cell hbz c1; have z0 := keep_cell hbz z0; have z1 := keep_cell hbz z1; have Ac0 := fun o => keep_cell ((Below.refl _ _).alloc (Nat.le_refl _) o) c0; have Ac1 := fun o => keep_cell ((Below.refl _ _).alloc (Nat.le_refl _) o) c1; have Az0 := fun o => keep_cell ((Below.refl _ _).alloc (Nat.le_refl _) o) z0; have Az1 := fun o => keep_cell ((Below.refl _ _).alloc (Nat.le_refl _) o) z1; have HB := Lib.hid (belowT HB.out hbz); clear hbz))
      go_meet
      exact ⟨rfl, HB⟩
    by_cases g7 : ¬ xm ≤ 0
    rotate_left
    · obtain rfl : t = true := HTT.out.2 (fun g => g7 (g.2.2.2.2.2.2.1))
      have g7 := Decidable.not_not.1 g7
      clear g1 g2
      go_wp2_with (first
        | (go_at_call 33; (with_reducible refine (HVX.out _).mono ?_); rintro en w15 ⟨rfl, hbz⟩; have c0 := keep_cell hbz c0; have c1 := keep_cell hbz c1; have z0 := keep_cell hbz z0; have z1 := keep_cell hbz z1; have Ac0 := fun o => keep_cell ((Below.refl _ _).alloc (Nat.le_refl _) o) c0; have Ac1 := fun o => keep_cell ((Below.refl _ _).alloc (Nat.le_refl _) o) c1; have Az0 := fun o => keep_cell ((Below.refl _ _).alloc (Nat.le_refl _) o) z0; have Az1 := fun o => keep_cell ((Below.refl _ _).alloc (Nat.le_refl _) o) z1; have HB := Lib.hid (belowT HB.out hbz); clear hbz)
        | (go_at_call 33; (with_reducible refine (HVY.out _).mono ?_); rintro en w16 ⟨rfl, hbz⟩; have c0 := keep_cell hbz c0; have c1 := keep_cell hbz c1; have z0 := keep_cell hbz z0; have z1 := keep_cell hbz z1; have Ac0 := fun o => keep_cell ((Below.refl _ _).alloc (Nat.le_refl _) o) c0; have Ac1 := fun o => keep_cell ((Below.refl _ _).alloc (Nat.le_refl _) o) c1; have Az0 := fun o => keep_cell ((Below.refl _ _).alloc (Nat.le_refl _) o) z0; have Az1 := fun o => keep_cell ((Below.refl _ _).alloc (Nat.le_refl _) o) z1; have HB := Lib.hid (belowT HB.out hbz); clear hbz))
      go_meet
      exact ⟨rfl, HB⟩
    by_cases g8 : ¬ ym ≤ 0
    rotate_left
    · obtain rfl : t = true := HTT.out.2 (fun g => g8 (g.2.2.2.2.2.2.2))
      have g8 := Decidable.not_not.1 g8
      clear g1 g2
      go_wp2_with (first
        | (go_at_call 33; (with_reducible refine (HVX.out _).mono ?_); rintro en w15 ⟨rfl, hbz⟩; have c0 := keep_cell hbz c0; have c1 := keep_cell hbz c1; have z0 := keep_cell hbz z0; have z1 := keep_cell hbz z1; have Ac0 := fun o => keep_cell ((Below.refl _ _).alloc (Nat.le_refl _) o) c0; have Ac1 := fun o => keep_cell ((Below.refl _ _).alloc (Nat.le_refl _) o) c1; have Az0 := fun o => keep_cell ((Below.refl _ _).alloc (Nat.le_refl _) o) z0; have Az1 := fun o => keep_cell ((Below.refl _ _).alloc (Nat.le_refl _) o) z1; have HB := Lib.hid (belowT HB.out hbz); clear hbz)
        | (go_at_call 33; (with_reducible refine (HVY.out _).mono ?_); rintro en w16 ⟨rfl, hbz⟩; have c0 := keep_cell hbz c0; have c1 := keep_cell hbz c1; have z0 := keep_cell hbz z0; have z1 := keep_cell hbz z1; have Ac0 := fun o => keep_cell ((Below.refl _ _).alloc (Nat.le_refl _) o) c0; have Ac1 := fun o => keep_cell ((Below.refl _ _).alloc (Nat.le_refl _) o) c1; have Az0 := fun o => keep_cell ((Below.refl _ _).alloc (Nat.le_refl _) o) z0; have Az1 := fun o => keep_cell ((Below.refl _ _).alloc (Nat.le_refl _) o) z1; have HB := Lib.hid (belowT HB.out hbz); clear hbz))
      go_meet
      exact ⟨rfl, HB⟩
    obtain rfl : t = false := by
      cases t
      · rfl
      · exact absurd ⟨g1, g2, g3, g4, g5, g6, g7, g8⟩ (HTT.out.1 rfl)
    clear g1 g2
    go_wp2_with (first
      | (go_at_call 33; (with_reducible refine (HVX.out _).mono ?_); rintro en w15 ⟨rfl, hbz⟩; have c0 := keep_cell hbz c0; have c1 := keep_cell hbz c1; have z0 := keep_cell hbz z0; have z1 := keep_cell hbz z1; have Ac0 := fun o => keep_cell ((Below.refl _ _).alloc (Nat.le_refl _) o) c0; have Ac1 := fun o => keep_cell ((Below.refl _ _).alloc (Nat.le_refl _) o) c1; have Az0 := fun o => keep_cell ((Below.refl _ _).alloc (Nat.le_refl _) o) z0; have Az1 := fun o => keep_cell ((Below.refl _ _).alloc (Nat.le_refl _) o) z1; have HB := Lib.hid (belowT HB.out hbz); clear hbz)
      | (go_at_call 33; (with_reducible refine (HVY.out _).mono ?_); rintro en w16 ⟨rfl, hbz⟩; have c0 := keep_cell hbz c0; have c1 := keep_cell hbz c1; have z0 := keep_cell hbz z0; have z1 := keep_cell hbz z1; have Ac0 := fun o => keep_cell ((Below.refl _ _).alloc (Nat.le_refl _) o) c0; have Ac1 := fun o => keep_cell ((Below.refl _ _).alloc (Nat.le_refl _) o) c1; have Az0 := fun o => keep_cell ((Below.refl _ _).alloc (Nat.le_refl _) o) z0; have Az1 := fun o => keep_cell ((Below.refl _ _).alloc (Nat.le_refl _) o) z1; have HB := Lib.hid (belowT HB.out hbz); clear hbz))
    go_meet
    exact ⟨by rw [decide_eq_false (by omega : ¬ xe < -99), decide_eq_false (by omega : ¬ ye < -99), decide_eq_false (by omega : ¬ 80 < xe), decide_eq_false (by omega : ¬ 80 < ye), decide_eq_false (by omega : ¬ xm ≤ 0), decide_eq_false (by omega : ¬ ym ≤ 0)]; rfl, HB⟩
  obtain ⟨rfl, HBC⟩ := hcut
  obtain ⟨T, hT⟩ : ∃ T, wc = T := ⟨_, rfl⟩
  rw [hT] at HBC ⊢
  clear hT
  have c0 := keep_cell HBC.out c0; have c1 := keep_cell HBC.out c1; have z0 := keep_cell HBC.out z0; have z1 := keep_cell HBC.out z1
  have HB := Lib.hid (belowT HBZ.out HBC.out)
  clear HBZ HBC HVX HVY
  cases t
  rotate_left
  · skip
    go_wp2_with (first
      | (go_at_call 25; (with_reducible refine (HSAN.out _ (HT.out.below HB.out)).mono ?_); rintro en w17 ⟨rfl, hbz⟩; have HB := Lib.hid (belowT HB.out hbz); clear hbz))
    go_ret
    exact ⟨rfl, belowT HBEL.out HB.out⟩
  have hgood : RV xm.natAbs xe ∧ RV ym.natAbs ye ∧ ¬ xe < -99 ∧ ¬ ye < -99 ∧ ¬ 80 < xe ∧ ¬ 80 < ye ∧ ¬ xm ≤ 0 ∧ ¬ ym ≤ 0 := Classical.byContradiction fun h => Bool.noConfusion (HTT.out.2 h)
  clear HTT
  obtain ⟨hrx, hry, x3, y3, x4, y4, x5, y5⟩ := hgood
  obtain ⟨ta, te, htw, htv, htr⟩ := twice_ok hry (by omega)
  obtain ⟨oa, oe, how, hov, hor⟩ := twice_ok hrx (by omega)
  have tb : -9223372036854775808 ≤ ta ∧ ta ≤ 9223372036854775807 := by unfold RV at htv; omega
  have ob : -9223372036854775808 ≤ oa ∧ oa ≤ 9223372036854775807 := by unfold RV at hov; omega
  have HTW := Lib.hid (fun w' => addX_c ym ye ym ye w' hy0 hy1 hy0 hy1)
  rw [htw] at HTW
  have HOV := Lib.hid (fun w' => addX_c xm xe xm xe w' hx0 hx1 hx0 hx1)
  rw [how] at HOV
  have HC1 := Lib.hid (fun w' => cmpR_c xm xe ta te w' hx0 hx1 tb.1 tb.2)
  rw [if_pos ⟨htv, hrx⟩] at HC1
  have HC2 := Lib.hid (fun w' => cmpR_c ym ye oa oe w' hy0 hy1 ob.1 ob.2)
  rw [if_pos ⟨hov, hry⟩] at HC2
  obtain ⟨k1, hk1⟩ : ∃ c, max (-1) (min (plR xm xe - plR ta te) 1) = c := ⟨_, rfl⟩
  obtain ⟨k2, hk2⟩ : ∃ c, max (-1) (min (plR ym ye - plR oa oe) 1) = c := ⟨_, rfl⟩
  rw [hk1] at HC1
  rw [hk2] at HC2
  have s1 := cmp_sign hk1
  have s2 := cmp_sign hk2
  have HBK : Hid (k1 < 0 → k2 < 0 → ∃ p q, (∀ w', Calls Tryz.prog 35 #[.agg #[.int .i64 xm, .int .i64 xe], .agg #[.int .i64 ym, .int .i64 ye]] w' fun en w2 => en = .returned (.tuple #[.agg #[.int .i64 p, .int .i64 q], .int .i64 0]) ∧ Below w'.heap.size w' w2) ∧ (∀ w', Calls Tryz.prog 34 #[.agg #[.int .i64 p, .int .i64 q], .agg #[.int .i64 ym, .int .i64 ye]] w' fun en w2 => en = .returned (.tuple #[.agg #[.int .i64 xm, .int .i64 xe], .int .i64 0]) ∧ Below w'.heap.size w' w2)) := fun l1 l2 => by
    obtain ⟨p, q, h1, h2, h3⟩ := there_back hrx hry (by omega) (by omega) (by omega) (by omega) htr hor (s1.1 l1) (s2.1 l2)
    have pb : -9223372036854775808 ≤ p ∧ p ≤ 9223372036854775807 := by unfold RV at h2; omega
    refine ⟨p, q, fun w' => ?_, fun w' => ?_⟩
    · have := subX_c xm xe ym ye w' hx0 hx1 hy0 hy1
      rw [h1] at this
      exact this
    · have := addX_c p q ym ye w' pb.1 pb.2 hy0 hy1
      rw [h3] at this
      exact this
  clear hrx hry x3 y3 x4 y4 x5 y5 htw htv htr how hov hor tb ob hk1 hk2 s1 s2 hx0 hx1 hy0 hy1
  go_upto_region 24 with (first
    | (go_at_call 34; (with_reducible refine (HTW.out _).mono ?_); rintro en w20 ⟨rfl, hbz⟩; have c0 := keep_cell hbz c0; have c1 := keep_cell hbz c1; have z0 := keep_cell hbz z0; have z1 := keep_cell hbz z1; have Ac0 := fun o => keep_cell ((Below.refl _ _).alloc (Nat.le_refl _) o) c0; have Ac1 := fun o => keep_cell ((Below.refl _ _).alloc (Nat.le_refl _) o) c1; have Az0 := fun o => keep_cell ((Below.refl _ _).alloc (Nat.le_refl _) o) z0; have Az1 := fun o => keep_cell ((Below.refl _ _).alloc (Nat.le_refl _) o) z1; have HB := Lib.hid (belowT HB.out hbz); clear hbz)
    | (go_at_call 34; (with_reducible refine (HOV.out _).mono ?_); rintro en w21 ⟨rfl, hbz⟩; have c0 := keep_cell hbz (keep_cell ((Below.refl _ _).alloc (Nat.le_refl _) _) c0); have c1 := keep_cell hbz (keep_cell ((Below.refl _ _).alloc (Nat.le_refl _) _) c1); have z0 := keep_cell hbz (keep_cell ((Below.refl _ _).alloc (Nat.le_refl _) _) z0); have z1 := keep_cell hbz (keep_cell ((Below.refl _ _).alloc (Nat.le_refl _) _) z1); obtain ⟨b0, b1⟩ := two_cells (heapB hbz (heap_alloc_new _ _)); have Ac0 := fun o => keep_cell ((Below.refl _ _).alloc (Nat.le_refl _) o) c0; have Ac1 := fun o => keep_cell ((Below.refl _ _).alloc (Nat.le_refl _) o) c1; have Az0 := fun o => keep_cell ((Below.refl _ _).alloc (Nat.le_refl _) o) z0; have Az1 := fun o => keep_cell ((Below.refl _ _).alloc (Nat.le_refl _) o) z1; have Ab0 := fun o => keep_cell ((Below.refl _ _).alloc (Nat.le_refl _) o) b0; have Ab1 := fun o => keep_cell ((Below.refl _ _).alloc (Nat.le_refl _) o) b1; have HB := Lib.hid (belowT (belowA HB.out _) hbz); clear hbz)
    | (go_at_call 42; (with_reducible refine (HC1.out _).mono ?_); rintro en w22 ⟨rfl, hbz⟩; have c0 := keep_cell hbz (keep_cell ((Below.refl _ _).alloc (Nat.le_refl _) _) c0); have c1 := keep_cell hbz (keep_cell ((Below.refl _ _).alloc (Nat.le_refl _) _) c1); have z0 := keep_cell hbz (keep_cell ((Below.refl _ _).alloc (Nat.le_refl _) _) z0); have z1 := keep_cell hbz (keep_cell ((Below.refl _ _).alloc (Nat.le_refl _) _) z1); have b0 := keep_cell hbz (keep_cell ((Below.refl _ _).alloc (Nat.le_refl _) _) b0); have b1 := keep_cell hbz (keep_cell ((Below.refl _ _).alloc (Nat.le_refl _) _) b1); obtain ⟨o0, o1⟩ := two_cells (heapB hbz (heap_alloc_new _ _)); have Ac0 := fun o => keep_cell ((Below.refl _ _).alloc (Nat.le_refl _) o) c0; have Ac1 := fun o => keep_cell ((Below.refl _ _).alloc (Nat.le_refl _) o) c1; have Az0 := fun o => keep_cell ((Below.refl _ _).alloc (Nat.le_refl _) o) z0; have Az1 := fun o => keep_cell ((Below.refl _ _).alloc (Nat.le_refl _) o) z1; have Ab0 := fun o => keep_cell ((Below.refl _ _).alloc (Nat.le_refl _) o) b0; have Ab1 := fun o => keep_cell ((Below.refl _ _).alloc (Nat.le_refl _) o) b1; have Ao0 := fun o => keep_cell ((Below.refl _ _).alloc (Nat.le_refl _) o) o0; have Ao1 := fun o => keep_cell ((Below.refl _ _).alloc (Nat.le_refl _) o) o1; have HB := Lib.hid (belowT (belowA HB.out _) hbz); clear hbz)
    | (go_at_call 42; (with_reducible refine (HC2.out _).mono ?_); rintro en w23 ⟨rfl, hbz⟩; have c0 := keep_cell hbz c0; have c1 := keep_cell hbz c1; have z0 := keep_cell hbz z0; have z1 := keep_cell hbz z1; have b0 := keep_cell hbz b0; have b1 := keep_cell hbz b1; have o0 := keep_cell hbz o0; have o1 := keep_cell hbz o1; have Ac0 := fun o => keep_cell ((Below.refl _ _).alloc (Nat.le_refl _) o) c0; have Ac1 := fun o => keep_cell ((Below.refl _ _).alloc (Nat.le_refl _) o) c1; have Az0 := fun o => keep_cell ((Below.refl _ _).alloc (Nat.le_refl _) o) z0; have Az1 := fun o => keep_cell ((Below.refl _ _).alloc (Nat.le_refl _) o) z1; have Ab0 := fun o => keep_cell ((Below.refl _ _).alloc (Nat.le_refl _) o) b0; have Ab1 := fun o => keep_cell ((Below.refl _ _).alloc (Nat.le_refl _) o) b1; have Ao0 := fun o => keep_cell ((Below.refl _ _).alloc (Nat.le_refl _) o) o0; have Ao1 := fun o => keep_cell ((Below.refl _ _).alloc (Nat.le_refl _) o) o1; have HB := Lib.hid (belowT HB.out hbz); clear hbz))
  clear Ac0 Ac1 Az0 Az1 Ab0 Ab1 Ao0 Ao1 b0 b1 o0 o1 HTW HOV HC1 HC2
  by_cases l1 : 0 ≤ k1
  · skip
    go_wp2_with (first
      | (go_at_call 25; (with_reducible refine (HSAN.out _ (HT.out.below HB.out)).mono ?_); rintro en w24 ⟨rfl, hbz⟩; have HB := Lib.hid (belowT HB.out hbz); clear hbz))
    go_ret
    exact ⟨rfl, belowT HBEL.out HB.out⟩
  by_cases l2 : 0 ≤ k2
  · skip
    go_wp2_with (first
      | (go_at_call 25; (with_reducible refine (HSAN.out _ (HT.out.below HB.out)).mono ?_); rintro en w24 ⟨rfl, hbz⟩; have HB := Lib.hid (belowT HB.out hbz); clear hbz))
    go_ret
    exact ⟨rfl, belowT HBEL.out HB.out⟩
  obtain ⟨p, q, hp1, hp2⟩ := HBK.out (by omega) (by omega)
  have HP1 := Lib.hid hp1; have HP2 := Lib.hid hp2
  clear hp1 hp2 HBK
  go_wp2_with (first
    | (go_at_call 35; (with_reducible refine (HP1.out _).mono ?_); rintro en w25 ⟨rfl, hbz⟩; have c0 := keep_cell hbz c0; have c1 := keep_cell hbz c1; have z0 := keep_cell hbz z0; have z1 := keep_cell hbz z1; have Ac0 := fun o => keep_cell ((Below.refl _ _).alloc (Nat.le_refl _) o) c0; have Ac1 := fun o => keep_cell ((Below.refl _ _).alloc (Nat.le_refl _) o) c1; have Az0 := fun o => keep_cell ((Below.refl _ _).alloc (Nat.le_refl _) o) z0; have Az1 := fun o => keep_cell ((Below.refl _ _).alloc (Nat.le_refl _) o) z1; have HB := Lib.hid (belowT HB.out hbz); clear hbz)
    | (go_at_call 34; (with_reducible refine (HP2.out _).mono ?_); rintro en w26 ⟨rfl, hbz⟩; have c0 := keep_cell hbz (keep_cell ((Below.refl _ _).alloc (Nat.le_refl _) _) c0); have c1 := keep_cell hbz (keep_cell ((Below.refl _ _).alloc (Nat.le_refl _) _) c1); have z0 := keep_cell hbz (keep_cell ((Below.refl _ _).alloc (Nat.le_refl _) _) z0); have z1 := keep_cell hbz (keep_cell ((Below.refl _ _).alloc (Nat.le_refl _) _) z1); obtain ⟨d0, d1⟩ := two_cells (heapB hbz (heap_alloc_new _ _)); have Ac0 := fun o => keep_cell ((Below.refl _ _).alloc (Nat.le_refl _) o) c0; have Ac1 := fun o => keep_cell ((Below.refl _ _).alloc (Nat.le_refl _) o) c1; have Az0 := fun o => keep_cell ((Below.refl _ _).alloc (Nat.le_refl _) o) z0; have Az1 := fun o => keep_cell ((Below.refl _ _).alloc (Nat.le_refl _) o) z1; have Ad0 := fun o => keep_cell ((Below.refl _ _).alloc (Nat.le_refl _) o) d0; have Ad1 := fun o => keep_cell ((Below.refl _ _).alloc (Nat.le_refl _) o) d1; have HB := Lib.hid (belowT (belowA HB.out _) hbz); clear hbz)
    | (go_at_call 25; (with_reducible refine (HSAN.out _ (HT.out.below (belowA HB.out _))).mono ?_); rintro en w27 ⟨rfl, hbz⟩; have c0 := keep_cell hbz (keep_cell ((Below.refl _ _).alloc (Nat.le_refl _) _) c0); have c1 := keep_cell hbz (keep_cell ((Below.refl _ _).alloc (Nat.le_refl _) _) c1); obtain ⟨n0, n1⟩ := two_cells (heapB hbz (heap_alloc_new _ _)); have Ac0 := fun o => keep_cell ((Below.refl _ _).alloc (Nat.le_refl _) o) c0; have Ac1 := fun o => keep_cell ((Below.refl _ _).alloc (Nat.le_refl _) o) c1; have An0 := fun o => keep_cell ((Below.refl _ _).alloc (Nat.le_refl _) o) n0; have An1 := fun o => keep_cell ((Below.refl _ _).alloc (Nat.le_refl _) o) n1; have HB := Lib.hid (belowT (belowA HB.out _) hbz); clear hbz))
  go_ret
  exact ⟨rfl, belowT HBEL.out HB.out⟩
end Go.Proofs.YtekbfommnmikbaaGreatDoor
