/- The law RealAlgebra: its walk, the first part. -/
import Derived.Test.YtekbfommnmikbaaGreatDoorAlgP
namespace Go.Proofs.YtekbfommnmikbaaGreatDoor
set_option linter.unusedVariables false
set_option linter.unusedSimpArgs false
open Go.RowKit Go.Shelf Go.Proofs Go.Sort
attribute [local go_sem ↓] Go.wp_at_zero Go.wp_at_succ

theorem info_real : (Tryz.prog.info? 23).map (fun i => (i.zero, i.size, i.bytes)) = some (some (.agg #[.int .i64 0, .int .i64 0]), 2, 16) := by kernel_rfl
/-- The cells of a row of reals. -/
def cellsR (l : List (Int × Int)) : List Value := l.flatMap fun p => [.int .i64 p.1, .int .i64 p.2]
theorem cellsR_len (l : List (Int × Int)) : (cellsR l).length = l.length * 2 := by
  induction l with
  | nil => rfl
  | cons p l ih =>
    rw [show cellsR (p :: l) = [.int .i64 p.1, .int .i64 p.2] ++ cellsR l from rfl, List.length_append, ih, List.length_cons]
    simp only [List.length_cons, List.length_nil]
    omega
theorem cellsR_snoc (l : List (Int × Int)) (p : Int × Int) : cellsR (l ++ [p]) = cellsR l ++ [.int .i64 p.1, .int .i64 p.2] := by
  unfold cellsR
  rw [List.flatMap_append]
  rfl

theorem cellsR_at : ∀ (l : List (Int × Int)) (j : Nat), j < l.length → (cellsR l)[j * 2]? = some (.int .i64 (l[j]?.getD (0, 0)).1) ∧ (cellsR l)[j * 2 + 1]? = some (.int .i64 (l[j]?.getD (0, 0)).2)
  | [], j, h => by simp at h
  | p :: l, 0, _ => ⟨rfl, rfl⟩
  | p :: l, j + 1, h => by
    obtain ⟨h1, h2⟩ := cellsR_at l j (by simpa using h)
    rw [show (j + 1) * 2 = j * 2 + 2 by omega]
    exact ⟨h1, h2⟩
/-- A row of reals of the call's own, as the contracts want it. -/
theorem own_reals {w : World} {base n : Nat} {v : Value} {l : List (Int × Int)} (h : w.ownsRow base 23 2 v n (cellsR l)) (hn : l.length = n) : ∃ A c, v = .slice A n c ∧ Reals w A l ∧ c ≤ maxLen := by
  rcases h.2 with ⟨rfl, h0⟩ | ⟨g, cap, cur, rfl, hb, hh, h1, hm, hs, ht⟩
  · refine ⟨none, 0, by rw [h0], fun j hj => ?_, Nat.zero_le _⟩
    omega
  · refine ⟨some ⟨g, 0, none⟩, cap, rfl, fun j hj => ⟨_, rfl, ?_⟩, hm⟩
    obtain ⟨e1, e2⟩ := cellsR_at l j hj
    rw [← ht] at e1 e2
    rw [List.getElem?_take_of_lt (by omega), Array.getElem?_toList] at e1 e2
    rw [add_lit, add_lit, cell_of_heap hh, cell_of_heap hh, Nat.zero_add]
    exact ⟨e1, e2⟩
theorem own_bel {w w' : World} {base n : Nat} {v : Value} {xs : List Value} (h : w.ownsRow base 23 2 v n xs) (hb : Below w.heap.size w w') : w'.ownsRow base 23 2 v n xs := by
  refine ⟨h.1, h.2.imp id ?_⟩
  rintro ⟨g, cap, cur, rfl, hg, hh, hr⟩
  exact ⟨g, cap, cur, rfl, hg, heapB hb hh, hr⟩
theorem own_at {w F : World} {base n B : Nat} {v : Value} {xs : List Value} (h : w.ownsRow base 23 2 v n xs) (ho : ∀ g, g ≠ B → F.heap[g]? = w.heap[g]?) (hB : B < base) : F.ownsRow base 23 2 v n xs := by
  refine ⟨h.1, h.2.imp id ?_⟩
  rintro ⟨g, cap, cur, rfl, hg, hh, hr⟩
  exact ⟨g, cap, cur, rfl, hg, (ho g (by omega)).trans hh, hr⟩
theorem two_put9 {w : World} {B : Nat} {x y : Value} {t : TypeId} (a b : Value) (h : w.heap[B]? = some (.cells #[x, y] t (0, 0))) :
    ∃ F, ((w.setCell ⟨B, 0, none⟩ a).setCell ⟨B, 1, none⟩ b) = F ∧ F.heap[B]? = some (.cells #[a, b] t (0, 0)) ∧ (∀ g, g ≠ B → F.heap[g]? = w.heap[g]?) ∧ (∀ k w0, k ≤ B → Below k w0 w → Below k w0 F) :=
  ⟨_, rfl, putB (putB h 0 a) 1 b, fun g hg => by rw [Below.heap_setCell _ _ _ _ hg, Below.heap_setCell _ _ _ _ hg], fun k w0 hk hb => (hb.setCell (p := ⟨B, 0, none⟩) hk _).setCell (p := ⟨B, 1, none⟩) hk _⟩
theorem own_fromR {w : World} {base n : Nat} {v : Value} {xs : List Value} (h : w.ownsRow base 23 2 v n xs) : FromB base v := fun k hk => (h.lt k hk).1
theorem sumX_form (l : List (Int × Int)) : ∃ a b c, sumX l = .tuple #[.agg #[.int .i64 a, .int .i64 b], .int .i64 c] := by
  unfold sumX
  split
  · exact ⟨_, _, _, rfl⟩
  · split
    · exact res_sumR l
    · exact ⟨_, _, _, rfl⟩

set_option maxRecDepth 100000 in
set_option maxHeartbeats 16000000 in
theorem algebra_walk (xm xe ym ye : Int) (A : Option Addr) (c : Nat) (l : List (Int × Int)) (w : World) (ht : P10 w) (hr : Reals w A l) (hi : In64 l) (hlc : l.length ≤ 9223372036854775807) (hx0 : -9223372036854775808 ≤ xm) (hx1 : xm ≤ 9223372036854775807) (hy0 : -9223372036854775808 ≤ ym) (hy1 : ym ≤ 9223372036854775807) :
    Calls Tryz.prog 10 #[.agg #[.int .i64 xm, .int .i64 xe], .agg #[.int .i64 ym, .int .i64 ye], .slice A l.length c] w fun en w' => en = .returned (.bool true) ∧ Below w.heap.size w w' := by
  obtain ⟨W, hW, k0, k1, hbel, hsz⟩ := bx2h w #[.int .i64 xm, .int .i64 xe] #[.int .i64 ym, .int .i64 ye] 23 23
  have HBEL := Lib.hid hbel
  have HSZ := Lib.hid hsz
  have HT := Lib.hid (ht.below hbel)
  have HR := Lib.hid (hr.below hbel)
  have HIN := Lib.hid hi
  obtain ⟨c0, c1⟩ := two_cells k0
  obtain ⟨y0, y1⟩ := two_cells k1
  have HSAN : Hid (∀ w' : World, P10 w' → Calls Tryz.prog 25 #[] w' fun e w2 => e = .returned (.bool true) ∧ Below w'.heap.size w' w2) := sanityR_c
  have HVX := Lib.hid (fun w' => validR_c xm xe w' hx0 hx1)
  have HVY := Lib.hid (fun w' => validR_c ym ye w' hy0 hy1)
  clear k0 k1 hbel hsz hr hi
  by_cases hx : RV xm.natAbs xe
  rotate_left
  · rw [show decide (RV xm.natAbs xe) = false from decide_eq_false hx] at HVX
    go_enter Tryz.func10, Tryz.ntmps10
    go_wp2_with (first
      | (go_at_call 33; (with_reducible refine (HVX.out _).mono ?_); rintro en w2 ⟨rfl, hbz⟩; have c0 := keep_cell hbz c0; have c1 := keep_cell hbz c1; have y0 := keep_cell hbz y0; have y1 := keep_cell hbz y1; have Ac0 := fun o => keep_cell ((Below.refl _ _).alloc (Nat.le_refl _) o) c0; have Ac1 := fun o => keep_cell ((Below.refl _ _).alloc (Nat.le_refl _) o) c1; have Ay0 := fun o => keep_cell ((Below.refl _ _).alloc (Nat.le_refl _) o) y0; have Ay1 := fun o => keep_cell ((Below.refl _ _).alloc (Nat.le_refl _) o) y1; have HB := Lib.hid hbz; clear hbz)
      | (go_at_call 25; (with_reducible refine (HSAN.out _ (HT.out.below HB.out)).mono ?_); rintro en w99 ⟨rfl, hbz⟩; have HB := Lib.hid (belowT HB.out hbz); clear hbz))
    go_ret
    exact ⟨rfl, belowT HBEL.out HB.out⟩
  rw [show decide (RV xm.natAbs xe) = true from decide_eq_true hx] at HVX
  by_cases hy : RV ym.natAbs ye
  rotate_left
  · rw [show decide (RV ym.natAbs ye) = false from decide_eq_false hy] at HVY
    clear hx hy
    go_enter Tryz.func10, Tryz.ntmps10
    go_wp2_with (first
      | (go_at_call 33; (with_reducible refine (HVX.out _).mono ?_); rintro en w2 ⟨rfl, hbz⟩; have c0 := keep_cell hbz c0; have c1 := keep_cell hbz c1; have y0 := keep_cell hbz y0; have y1 := keep_cell hbz y1; have Ac0 := fun o => keep_cell ((Below.refl _ _).alloc (Nat.le_refl _) o) c0; have Ac1 := fun o => keep_cell ((Below.refl _ _).alloc (Nat.le_refl _) o) c1; have Ay0 := fun o => keep_cell ((Below.refl _ _).alloc (Nat.le_refl _) o) y0; have Ay1 := fun o => keep_cell ((Below.refl _ _).alloc (Nat.le_refl _) o) y1; have HB := Lib.hid hbz; clear hbz)
      | (go_at_call 33; (with_reducible refine (HVY.out _).mono ?_); rintro en w3 ⟨rfl, hbz⟩; have c0 := keep_cell hbz c0; have c1 := keep_cell hbz c1; have y0 := keep_cell hbz y0; have y1 := keep_cell hbz y1; have Ac0 := fun o => keep_cell ((Below.refl _ _).alloc (Nat.le_refl _) o) c0; have Ac1 := fun o => keep_cell ((Below.refl _ _).alloc (Nat.le_refl _) o) c1; have Ay0 := fun o => keep_cell ((Below.refl _ _).alloc (Nat.le_refl _) o) y0; have Ay1 := fun o => keep_cell ((Below.refl _ _).alloc (Nat.le_refl _) o) y1; have HB := Lib.hid (belowT HB.out hbz); clear hbz)
      | (go_at_call 25; (with_reducible refine (HSAN.out _ (HT.out.below HB.out)).mono ?_); rintro en w99 ⟨rfl, hbz⟩; have HB := Lib.hid (belowT HB.out hbz); clear hbz))
    go_ret
    exact ⟨rfl, belowT HBEL.out HB.out⟩
  rw [show decide (RV ym.natAbs ye) = true from decide_eq_true hy] at HVY
  obtain ⟨n, hn⟩ : ∃ n, l.length = n := ⟨_, rfl⟩
  have HN := Lib.hid hn
  rw [hn] at hlc ⊢
  by_cases h20 : (20 : Int) < (n : Int)
  · clear hx hy hn
    go_enter Tryz.func10, Tryz.ntmps10
    go_wp2_with (first
      | (go_at_call 33; (with_reducible refine (HVX.out _).mono ?_); rintro en w2 ⟨rfl, hbz⟩; have c0 := keep_cell hbz c0; have c1 := keep_cell hbz c1; have y0 := keep_cell hbz y0; have y1 := keep_cell hbz y1; have Ac0 := fun o => keep_cell ((Below.refl _ _).alloc (Nat.le_refl _) o) c0; have Ac1 := fun o => keep_cell ((Below.refl _ _).alloc (Nat.le_refl _) o) c1; have Ay0 := fun o => keep_cell ((Below.refl _ _).alloc (Nat.le_refl _) o) y0; have Ay1 := fun o => keep_cell ((Below.refl _ _).alloc (Nat.le_refl _) o) y1; have HB := Lib.hid hbz; clear hbz)
      | (go_at_call 33; (with_reducible refine (HVY.out _).mono ?_); rintro en w3 ⟨rfl, hbz⟩; have c0 := keep_cell hbz c0; have c1 := keep_cell hbz c1; have y0 := keep_cell hbz y0; have y1 := keep_cell hbz y1; have Ac0 := fun o => keep_cell ((Below.refl _ _).alloc (Nat.le_refl _) o) c0; have Ac1 := fun o => keep_cell ((Below.refl _ _).alloc (Nat.le_refl _) o) c1; have Ay0 := fun o => keep_cell ((Below.refl _ _).alloc (Nat.le_refl _) o) y0; have Ay1 := fun o => keep_cell ((Below.refl _ _).alloc (Nat.le_refl _) o) y1; have HB := Lib.hid (belowT HB.out hbz); clear hbz)
      | (go_at_call 25; (with_reducible refine (HSAN.out _ (HT.out.below HB.out)).mono ?_); rintro en w99 ⟨rfl, hbz⟩; have HB := Lib.hid (belowT HB.out hbz); clear hbz))
    go_ret
    exact ⟨rfl, belowT HBEL.out HB.out⟩
  clear hn
  have HAXY : Hid (∃ a1 a2 a3 : Int, (∀ w', Calls Tryz.prog 34 #[.agg #[.int .i64 xm, .int .i64 xe], .agg #[.int .i64 ym, .int .i64 ye]] w' fun en w2 => en = .returned (.tuple #[.agg #[.int .i64 a1, .int .i64 a2], .int .i64 a3]) ∧ Below w'.heap.size w' w2) ∧ (∀ w', Calls Tryz.prog 34 #[.agg #[.int .i64 ym, .int .i64 ye], .agg #[.int .i64 xm, .int .i64 xe]] w' fun en w2 => en = .returned (.tuple #[.agg #[.int .i64 a1, .int .i64 a2], .int .i64 a3]) ∧ Below w'.heap.size w' w2) ∧ sumX [(xm, xe), (ym, ye)] = .tuple #[.agg #[.int .i64 a1, .int .i64 a2], .int .i64 a3]) := by
    obtain ⟨a1, a2, a3, hf⟩ := res_sumR [(xm, xe), (ym, ye)]
    refine ⟨a1, a2, a3, fun w' => ?_, fun w' => ?_, ?_⟩
    · have h := addX_c xm xe ym ye w' hx0 hx1 hy0 hy1
      rw [show addX xm xe ym ye = sumR [(xm, xe), (ym, ye)] from doneR_ok hx hy rfl, hf] at h
      exact h
    · have h := addX_c ym ye xm xe w' hy0 hy1 hx0 hx1
      rw [show addX ym ye xm xe = sumR [(ym, ye), (xm, xe)] from doneR_ok hy hx rfl, sumR_comm, hf] at h
      exact h
    · unfold sumX
      rw [if_neg (by simp), if_pos ?_, hf]
      unfold okL
      simp only [List.all_cons, List.all_nil, Bool.and_true, Bool.and_eq_true, decide_eq_true_eq]
      exact ⟨hx, hy⟩
  obtain ⟨a1, a2, a3, hA1, hA2, hA3⟩ := HAXY.out
  have HA1 := Lib.hid hA1; have HA2 := Lib.hid hA2; have HA3 := Lib.hid hA3
  have HMXY : Hid (∃ a1 a2 a3 : Int, (∀ w', Calls Tryz.prog 46 #[.agg #[.int .i64 xm, .int .i64 xe], .agg #[.int .i64 ym, .int .i64 ye]] w' fun en w2 => en = .returned (.tuple #[.agg #[.int .i64 a1, .int .i64 a2], .int .i64 a3]) ∧ Below w'.heap.size w' w2) ∧ (∀ w', Calls Tryz.prog 46 #[.agg #[.int .i64 ym, .int .i64 ye], .agg #[.int .i64 xm, .int .i64 xe]] w' fun en w2 => en = .returned (.tuple #[.agg #[.int .i64 a1, .int .i64 a2], .int .i64 a3]) ∧ Below w'.heap.size w' w2)) := by
    obtain ⟨a1, a2, a3, hf⟩ : ∃ a b c, prodR xm xe ym ye = .tuple #[.agg #[.int .i64 a, .int .i64 b], .int .i64 c] := res_form _ _
    refine ⟨a1, a2, a3, fun w' => ?_, fun w' => ?_⟩
    · have h := mulX_c xm xe ym ye w' hx0 hx1 hy0 hy1
      rw [show mulX xm xe ym ye = prodR xm xe ym ye from doneR_ok hx hy rfl, hf] at h
      exact h
    · have h := mulX_c ym ye xm xe w' hy0 hy1 hx0 hx1
      rw [show mulX ym ye xm xe = prodR ym ye xm xe from doneR_ok hy hx rfl, prodR_comm, hf] at h
      exact h
  obtain ⟨m1, m2, m3, hM1, hM2⟩ := HMXY.out
  have HM1 := Lib.hid hM1; have HM2 := Lib.hid hM2
  have HNY := Lib.hid (fun w' => negR_c ym ye w' hy0 hy1)
  rw [if_pos hy] at HNY
  obtain ⟨yx0, yx1, yx2⟩ := RV_abs hy
  have hny : RV (-ym).natAbs ye := by rw [Int.natAbs_neg]; exact hy
  have HPQ : Hid (∃ pa pe pc ra : Int, (∀ w', Calls Tryz.prog 35 #[.agg #[.int .i64 xm, .int .i64 xe], .agg #[.int .i64 ym, .int .i64 ye]] w' fun en w2 => en = .returned (.tuple #[.agg #[.int .i64 pa, .int .i64 pe], .int .i64 pc]) ∧ Below w'.heap.size w' w2) ∧ (∀ w', Calls Tryz.prog 34 #[.agg #[.int .i64 xm, .int .i64 xe], .agg #[.int .i64 (-ym), .int .i64 ye]] w' fun en w2 => en = .returned (.tuple #[.agg #[.int .i64 pa, .int .i64 pe], .int .i64 pc]) ∧ Below w'.heap.size w' w2) ∧ (∀ w', Calls Tryz.prog 35 #[.agg #[.int .i64 ym, .int .i64 ye], .agg #[.int .i64 xm, .int .i64 xe]] w' fun en w2 => en = .returned (.tuple #[.agg #[.int .i64 ra, .int .i64 pe], .int .i64 pc]) ∧ Below w'.heap.size w' w2) ∧ (∀ w', Calls Tryz.prog 43 #[.agg #[.int .i64 ra, .int .i64 pe]] w' fun en w2 => en = .returned (.tuple #[.agg #[.int .i64 (-ra), .int .i64 pe], .int .i64 0]) ∧ Below w'.heap.size w' w2) ∧ ((pc = 3) ∨ (pc = 0 ∧ -ra = pa))) := by
    obtain ⟨pa, pe, pc, ra, h1, h2, h3, h4⟩ : ∃ pa pe pc ra : Int, sumR [(xm, xe), (-ym, ye)] = .tuple #[.agg #[.int .i64 pa, .int .i64 pe], .int .i64 pc] ∧ sumR [(ym, ye), (-xm, xe)] = .tuple #[.agg #[.int .i64 ra, .int .i64 pe], .int .i64 pc] ∧ RV ra.natAbs pe ∧ ((pc = 3) ∨ (pc = 0 ∧ -ra = pa)) := by
      rcases sub_pair xm xe ym ye with ⟨h1, h2⟩ | ⟨a, e, hv, h1, h2⟩
      · exact ⟨0, 0, 3, 0, h1, h2, .inl ⟨rfl, rfl⟩, .inl rfl⟩
      · exact ⟨a, e, 0, -a, h1, h2, by rw [Int.natAbs_neg]; exact hv, .inr ⟨rfl, by omega⟩⟩
    refine ⟨pa, pe, pc, ra, fun w' => ?_, fun w' => ?_, fun w' => ?_, fun w' => ?_, h4⟩
    · have h := subX_c xm xe ym ye w' hx0 hx1 hy0 hy1
      rw [show subX xm xe ym ye = sumR [(xm, xe), (-ym, ye)] from doneR_ok hx hy rfl, h1] at h
      exact h
    · have h := addX_c xm xe (-ym) ye w' hx0 hx1 (by omega) (by omega)
      rw [show addX xm xe (-ym) ye = sumR [(xm, xe), (-ym, ye)] from doneR_ok hx hny rfl, h1] at h
      exact h
    · have h := subX_c ym ye xm xe w' hy0 hy1 hx0 hx1
      rw [show subX ym ye xm xe = sumR [(ym, ye), (-xm, xe)] from doneR_ok hy hx rfl, h2] at h
      exact h
    · have hb := RV_abs h3
      have h := negR_c ra pe w' (by omega) (by omega)
      rw [if_pos h3] at h
      exact h
  obtain ⟨pa, pe, pc, ra, hP1, hP2, hP3, hP4, hP5⟩ := HPQ.out
  have HP1 := Lib.hid hP1; have HP2 := Lib.hid hP2; have HP3 := Lib.hid hP3; have HP4 := Lib.hid hP4
  have HSXX := Lib.hid (fun w' => subX_c xm xe xm xe w' hx0 hx1 hx0 hx1)
  rw [show subX xm xe xm xe = sumR [(xm, xe), (-xm, xe)] from doneR_ok hx hx rfl, sub_self_R] at HSXX
  have HAX0 := Lib.hid (fun w' => addX_c xm xe 0 0 w' hx0 hx1 (by decide) (by decide))
  rw [show addX xm xe 0 0 = sumR [(xm, xe), (0, 0)] from doneR_ok hx (.inl ⟨rfl, rfl⟩) rfl, add_zero_R hx] at HAX0
  have HMX1 := Lib.hid (fun w' => mulX_c xm xe 100000000000 (-11) w' hx0 hx1 (by decide) (by decide))
  rw [show mulX xm xe 100000000000 (-11) = prodR xm xe 100000000000 (-11) from doneR_ok hx (by decide +kernel) rfl, mul_one_R hx] at HMX1
  have HS1 := Lib.hid (fun w' => (show Calls Tryz.prog 61 #[.int .i64 1, .int .i64 0] w' fun en w2 => en = .returned (.agg #[.int .i64 100000000000, .int .i64 (-11)]) ∧ Below w'.heap.size w' w2 from smallR_c 1 0 w' (by decide) (by decide) (by decide) (by decide) (by decide)))
  have HDV : Hid (∃ oa oe oc : Int, (∀ w', Calls Tryz.prog 47 #[.agg #[.int .i64 xm, .int .i64 xe], .agg #[.int .i64 xm, .int .i64 xe]] w' fun en w2 => en = .returned (.tuple #[.agg #[.int .i64 oa, .int .i64 oe], .int .i64 oc]) ∧ Below w'.heap.size w' w2) ∧ ((xm = 0 ∧ oc = 5) ∨ (¬ xm = 0 ∧ oc = 0 ∧ oa = 100000000000 ∧ oe = -11))) := by
    by_cases h0 : xm = 0
    · refine ⟨0, 0, 5, fun w' => ?_, .inl ⟨h0, rfl⟩⟩
      have h := divX_c xm xe xm xe w' hx0 hx1 hx0 hx1
      have e : divX xm xe xm xe = .tuple #[.agg #[.int .i64 0, .int .i64 0], .int .i64 5] := by
        unfold divX doneR
        rw [if_pos ⟨hx, hx⟩, if_pos h0, if_neg (by decide)]
      rw [e] at h
      exact h
    · refine ⟨100000000000, -11, 0, fun w' => ?_, .inr ⟨h0, rfl, rfl, rfl⟩⟩
      have h := divX_c xm xe xm xe w' hx0 hx1 hx0 hx1
      rw [show divX xm xe xm xe = quoR xm xe xm xe from doneR_ok hx hx (if_neg h0), div_self_R hx h0] at h
      exact h
  obtain ⟨oa, oe, oc, hD1, hD2⟩ := HDV.out
  have HD1 := Lib.hid hD1; have HD2 := Lib.hid hD2; have HP5 := Lib.hid hP5
  clear hx hy hA1 hA2 hA3 hM1 hM2 HAXY HMXY HPQ hP1 hP2 hP3 hP4 hP5 HDV hD1 hD2 yx0 yx1 yx2 hny
  go_enter Tryz.func10, Tryz.ntmps10
  go_upto_region 7 with (first
    | (go_at_call 33; (with_reducible refine (HVX.out _).mono ?_); rintro en w2 ⟨rfl, hbz⟩; have c0 := keep_cell hbz c0; have c1 := keep_cell hbz c1; have y0 := keep_cell hbz y0; have y1 := keep_cell hbz y1; have Ac0 := fun o => keep_cell ((Below.refl _ _).alloc (Nat.le_refl _) o) c0; have Ac1 := fun o => keep_cell ((Below.refl _ _).alloc (Nat.le_refl _) o) c1; have Ay0 := fun o => keep_cell ((Below.refl _ _).alloc (Nat.le_refl _) o) y0; have Ay1 := fun o => keep_cell ((Below.refl _ _).alloc (Nat.le_refl _) o) y1; have HB := Lib.hid hbz; clear hbz)
    | (go_at_call 33; (with_reducible refine (HVY.out _).mono ?_); rintro en w3 ⟨rfl, hbz⟩; have c0 := keep_cell hbz c0; have c1 := keep_cell hbz c1; have y0 := keep_cell hbz y0; have y1 := keep_cell hbz y1; have Ac0 := fun o => keep_cell ((Below.refl _ _).alloc (Nat.le_refl _) o) c0; have Ac1 := fun o => keep_cell ((Below.refl _ _).alloc (Nat.le_refl _) o) c1; have Ay0 := fun o => keep_cell ((Below.refl _ _).alloc (Nat.le_refl _) o) y0; have Ay1 := fun o => keep_cell ((Below.refl _ _).alloc (Nat.le_refl _) o) y1; have HB := Lib.hid (belowT HB.out hbz); clear hbz)
    | (go_at_call 34; (with_reducible refine (HA1.out _).mono ?_); rintro en w4 ⟨rfl, hbz⟩; have c0 := keep_cell hbz c0; have c1 := keep_cell hbz c1; have y0 := keep_cell hbz y0; have y1 := keep_cell hbz y1; have Ac0 := fun o => keep_cell ((Below.refl _ _).alloc (Nat.le_refl _) o) c0; have Ac1 := fun o => keep_cell ((Below.refl _ _).alloc (Nat.le_refl _) o) c1; have Ay0 := fun o => keep_cell ((Below.refl _ _).alloc (Nat.le_refl _) o) y0; have Ay1 := fun o => keep_cell ((Below.refl _ _).alloc (Nat.le_refl _) o) y1; have HB := Lib.hid (belowT HB.out hbz); clear hbz)
    | (go_at_call 34; (with_reducible refine (HA2.out _).mono ?_); rintro en w5 ⟨rfl, hbz⟩; have c0 := keep_cell hbz (keep_cell ((Below.refl _ _).alloc (Nat.le_refl _) _) c0); have c1 := keep_cell hbz (keep_cell ((Below.refl _ _).alloc (Nat.le_refl _) _) c1); have y0 := keep_cell hbz (keep_cell ((Below.refl _ _).alloc (Nat.le_refl _) _) y0); have y1 := keep_cell hbz (keep_cell ((Below.refl _ _).alloc (Nat.le_refl _) _) y1); have HXB7 := Lib.hid (heapB hbz (heap_alloc_new _ _)); have hzB7 := hbz.size; simp only [World.size_alloc] at hzB7; have hyB7 := HB.out.size; have Ac0 := fun o => keep_cell ((Below.refl _ _).alloc (Nat.le_refl _) o) c0; have Ac1 := fun o => keep_cell ((Below.refl _ _).alloc (Nat.le_refl _) o) c1; have Ay0 := fun o => keep_cell ((Below.refl _ _).alloc (Nat.le_refl _) o) y0; have Ay1 := fun o => keep_cell ((Below.refl _ _).alloc (Nat.le_refl _) o) y1; have HB := Lib.hid (belowT (belowA HB.out _) hbz); clear hbz)
    | (go_at_call 46; (with_reducible refine (HM1.out _).mono ?_); rintro en w6 ⟨rfl, hbz⟩; have c0 := keep_cell hbz (keep_cell ((Below.refl _ _).alloc (Nat.le_refl _) _) c0); have c1 := keep_cell hbz (keep_cell ((Below.refl _ _).alloc (Nat.le_refl _) _) c1); have y0 := keep_cell hbz (keep_cell ((Below.refl _ _).alloc (Nat.le_refl _) _) y0); have y1 := keep_cell hbz (keep_cell ((Below.refl _ _).alloc (Nat.le_refl _) _) y1); have HXB7 := Lib.hid (heapB hbz (heap_old _ HXB7.out)); have HXB9 := Lib.hid (heapB hbz (heap_alloc_new _ _)); have hzB9 := hbz.size; simp only [World.size_alloc] at hzB9; have hyB9 := HB.out.size; have Ac0 := fun o => keep_cell ((Below.refl _ _).alloc (Nat.le_refl _) o) c0; have Ac1 := fun o => keep_cell ((Below.refl _ _).alloc (Nat.le_refl _) o) c1; have Ay0 := fun o => keep_cell ((Below.refl _ _).alloc (Nat.le_refl _) o) y0; have Ay1 := fun o => keep_cell ((Below.refl _ _).alloc (Nat.le_refl _) o) y1; have HB := Lib.hid (belowT (belowA HB.out _) hbz); clear hbz)
    | (go_at_call 46; (with_reducible refine (HM2.out _).mono ?_); rintro en w7 ⟨rfl, hbz⟩; have c0 := keep_cell hbz (keep_cell ((Below.refl _ _).alloc (Nat.le_refl _) _) c0); have c1 := keep_cell hbz (keep_cell ((Below.refl _ _).alloc (Nat.le_refl _) _) c1); have y0 := keep_cell hbz (keep_cell ((Below.refl _ _).alloc (Nat.le_refl _) _) y0); have y1 := keep_cell hbz (keep_cell ((Below.refl _ _).alloc (Nat.le_refl _) _) y1); have HXB7 := Lib.hid (heapB hbz (heap_old _ HXB7.out)); have HXB9 := Lib.hid (heapB hbz (heap_old _ HXB9.out)); have HXB11 := Lib.hid (heapB hbz (heap_alloc_new _ _)); have hzB11 := hbz.size; simp only [World.size_alloc] at hzB11; have hyB11 := HB.out.size; have Ac0 := fun o => keep_cell ((Below.refl _ _).alloc (Nat.le_refl _) o) c0; have Ac1 := fun o => keep_cell ((Below.refl _ _).alloc (Nat.le_refl _) o) c1; have Ay0 := fun o => keep_cell ((Below.refl _ _).alloc (Nat.le_refl _) o) y0; have Ay1 := fun o => keep_cell ((Below.refl _ _).alloc (Nat.le_refl _) o) y1; have HB := Lib.hid (belowT (belowA HB.out _) hbz); clear hbz))
  obtain ⟨Z1, hZ1⟩ : ∃ Z, w7.alloc (.cells #[.int .i64 m1, .int .i64 m2] 23) = Z := ⟨_, rfl⟩
  rw [hZ1]
  have HXB7 := Lib.hid (heap_old (.cells #[.int .i64 m1, .int .i64 m2] 23) HXB7.out)
  rw [hZ1] at HXB7
  have HXB9 := Lib.hid (heap_old (.cells #[.int .i64 m1, .int .i64 m2] 23) HXB9.out)
  rw [hZ1] at HXB9
  have HXB11 := Lib.hid (heap_old (.cells #[.int .i64 m1, .int .i64 m2] 23) HXB11.out)
  rw [hZ1] at HXB11
  have HXB13 := Lib.hid (heap_alloc_new w7 (.cells #[.int .i64 m1, .int .i64 m2] 23))
  rw [hZ1] at HXB13
  have HB := Lib.hid (belowA HB.out (.cells #[.int .i64 m1, .int .i64 m2] 23))
  rw [hZ1] at HB
  obtain ⟨r70, r71⟩ := two_cells HXB7.out
  obtain ⟨r90, r91⟩ := two_cells HXB9.out
  obtain ⟨r110, r111⟩ := two_cells HXB11.out
  obtain ⟨r130, r131⟩ := two_cells HXB13.out
  have c0 := (show Z1.cell? _ = _ from hZ1 ▸ Ac0 _); have c1 := (show Z1.cell? _ = _ from hZ1 ▸ Ac1 _)
  have y0 := (show Z1.cell? _ = _ from hZ1 ▸ Ay0 _); have y1 := (show Z1.cell? _ = _ from hZ1 ▸ Ay1 _)
  clear hZ1 Ac0 Ac1 Ay0 Ay1
  go_upto_region 14 with (first
    | (go_at_call 43; (with_reducible refine (HNY.out _).mono ?_); rintro en w8 ⟨rfl, hbz⟩; have c0 := keep_cell hbz c0; have c1 := keep_cell hbz c1; have y0 := keep_cell hbz y0; have y1 := keep_cell hbz y1; have HXB7 := Lib.hid (heapB hbz (HXB7.out)); have HXB9 := Lib.hid (heapB hbz (HXB9.out)); have HXB11 := Lib.hid (heapB hbz (HXB11.out)); have HXB13 := Lib.hid (heapB hbz (HXB13.out)); have Ac0 := fun o => keep_cell ((Below.refl _ _).alloc (Nat.le_refl _) o) c0; have Ac1 := fun o => keep_cell ((Below.refl _ _).alloc (Nat.le_refl _) o) c1; have Ay0 := fun o => keep_cell ((Below.refl _ _).alloc (Nat.le_refl _) o) y0; have Ay1 := fun o => keep_cell ((Below.refl _ _).alloc (Nat.le_refl _) o) y1; have HB := Lib.hid (belowT HB.out hbz); clear hbz)
    | (go_at_call 35; (with_reducible refine (HP1.out _).mono ?_); rintro en w9 ⟨rfl, hbz⟩; have c0 := keep_cell hbz (keep_cell ((Below.refl _ _).alloc (Nat.le_refl _) _) c0); have c1 := keep_cell hbz (keep_cell ((Below.refl _ _).alloc (Nat.le_refl _) _) c1); have y0 := keep_cell hbz (keep_cell ((Below.refl _ _).alloc (Nat.le_refl _) _) y0); have y1 := keep_cell hbz (keep_cell ((Below.refl _ _).alloc (Nat.le_refl _) _) y1); have HXB7 := Lib.hid (heapB hbz (heap_old _ HXB7.out)); have HXB9 := Lib.hid (heapB hbz (heap_old _ HXB9.out)); have HXB11 := Lib.hid (heapB hbz (heap_old _ HXB11.out)); have HXB13 := Lib.hid (heapB hbz (heap_old _ HXB13.out)); obtain ⟨mi0, mi1⟩ := two_cells (heapB hbz (heap_alloc_new _ _)); have Ac0 := fun o => keep_cell ((Below.refl _ _).alloc (Nat.le_refl _) o) c0; have Ac1 := fun o => keep_cell ((Below.refl _ _).alloc (Nat.le_refl _) o) c1; have Ay0 := fun o => keep_cell ((Below.refl _ _).alloc (Nat.le_refl _) o) y0; have Ay1 := fun o => keep_cell ((Below.refl _ _).alloc (Nat.le_refl _) o) y1; have Ami0 := fun o => keep_cell ((Below.refl _ _).alloc (Nat.le_refl _) o) mi0; have Ami1 := fun o => keep_cell ((Below.refl _ _).alloc (Nat.le_refl _) o) mi1; have HB := Lib.hid (belowT (belowA HB.out _) hbz); clear hbz)
    | (go_at_call 34; (with_reducible refine (HP2.out _).mono ?_); rintro en w10 ⟨rfl, hbz⟩; have c0 := keep_cell hbz (keep_cell ((Below.refl _ _).alloc (Nat.le_refl _) _) c0); have c1 := keep_cell hbz (keep_cell ((Below.refl _ _).alloc (Nat.le_refl _) _) c1); have y0 := keep_cell hbz (keep_cell ((Below.refl _ _).alloc (Nat.le_refl _) _) y0); have y1 := keep_cell hbz (keep_cell ((Below.refl _ _).alloc (Nat.le_refl _) _) y1); have mi0 := keep_cell hbz (keep_cell ((Below.refl _ _).alloc (Nat.le_refl _) _) mi0); have mi1 := keep_cell hbz (keep_cell ((Below.refl _ _).alloc (Nat.le_refl _) _) mi1); have HXB7 := Lib.hid (heapB hbz (heap_old _ HXB7.out)); have HXB9 := Lib.hid (heapB hbz (heap_old _ HXB9.out)); have HXB11 := Lib.hid (heapB hbz (heap_old _ HXB11.out)); have HXB13 := Lib.hid (heapB hbz (heap_old _ HXB13.out)); have HXP16 := Lib.hid (heapB hbz (heap_alloc_new _ _)); have hzP16 := hbz.size; simp only [World.size_alloc] at hzP16; have hyP16 := HB.out.size; have Ac0 := fun o => keep_cell ((Below.refl _ _).alloc (Nat.le_refl _) o) c0; have Ac1 := fun o => keep_cell ((Below.refl _ _).alloc (Nat.le_refl _) o) c1; have Ay0 := fun o => keep_cell ((Below.refl _ _).alloc (Nat.le_refl _) o) y0; have Ay1 := fun o => keep_cell ((Below.refl _ _).alloc (Nat.le_refl _) o) y1; have Ami0 := fun o => keep_cell ((Below.refl _ _).alloc (Nat.le_refl _) o) mi0; have Ami1 := fun o => keep_cell ((Below.refl _ _).alloc (Nat.le_refl _) o) mi1; have HB := Lib.hid (belowT (belowA HB.out _) hbz); clear hbz)
    | (go_at_call 35; (with_reducible refine (HP3.out _).mono ?_); rintro en w11 ⟨rfl, hbz⟩; have c0 := keep_cell hbz (keep_cell ((Below.refl _ _).alloc (Nat.le_refl _) _) c0); have c1 := keep_cell hbz (keep_cell ((Below.refl _ _).alloc (Nat.le_refl _) _) c1); have y0 := keep_cell hbz (keep_cell ((Below.refl _ _).alloc (Nat.le_refl _) _) y0); have y1 := keep_cell hbz (keep_cell ((Below.refl _ _).alloc (Nat.le_refl _) _) y1); have HXB7 := Lib.hid (heapB hbz (heap_old _ HXB7.out)); have HXB9 := Lib.hid (heapB hbz (heap_old _ HXB9.out)); have HXB11 := Lib.hid (heapB hbz (heap_old _ HXB11.out)); have HXB13 := Lib.hid (heapB hbz (heap_old _ HXB13.out)); have HXP16 := Lib.hid (heapB hbz (heap_old _ HXP16.out)); have HXP17 := Lib.hid (heapB hbz (heap_alloc_new _ _)); have hzP17 := hbz.size; simp only [World.size_alloc] at hzP17; have hyP17 := HB.out.size; have Ac0 := fun o => keep_cell ((Below.refl _ _).alloc (Nat.le_refl _) o) c0; have Ac1 := fun o => keep_cell ((Below.refl _ _).alloc (Nat.le_refl _) o) c1; have Ay0 := fun o => keep_cell ((Below.refl _ _).alloc (Nat.le_refl _) o) y0; have Ay1 := fun o => keep_cell ((Below.refl _ _).alloc (Nat.le_refl _) o) y1; have HB := Lib.hid (belowT (belowA HB.out _) hbz); clear hbz)
    | (go_at_call 43; (with_reducible refine (HP4.out _).mono ?_); rintro en w12 ⟨rfl, hbz⟩; have c0 := keep_cell hbz (keep_cell ((Below.refl _ _).alloc (Nat.le_refl _) _) c0); have c1 := keep_cell hbz (keep_cell ((Below.refl _ _).alloc (Nat.le_refl _) _) c1); have y0 := keep_cell hbz (keep_cell ((Below.refl _ _).alloc (Nat.le_refl _) _) y0); have y1 := keep_cell hbz (keep_cell ((Below.refl _ _).alloc (Nat.le_refl _) _) y1); have HXB7 := Lib.hid (heapB hbz (heap_old _ HXB7.out)); have HXB9 := Lib.hid (heapB hbz (heap_old _ HXB9.out)); have HXB11 := Lib.hid (heapB hbz (heap_old _ HXB11.out)); have HXB13 := Lib.hid (heapB hbz (heap_old _ HXB13.out)); have HXP16 := Lib.hid (heapB hbz (heap_old _ HXP16.out)); have HXP17 := Lib.hid (heapB hbz (heap_old _ HXP17.out)); obtain ⟨rr0, rr1⟩ := two_cells (heapB hbz (heap_alloc_new _ _)); have Ac0 := fun o => keep_cell ((Below.refl _ _).alloc (Nat.le_refl _) o) c0; have Ac1 := fun o => keep_cell ((Below.refl _ _).alloc (Nat.le_refl _) o) c1; have Ay0 := fun o => keep_cell ((Below.refl _ _).alloc (Nat.le_refl _) o) y0; have Ay1 := fun o => keep_cell ((Below.refl _ _).alloc (Nat.le_refl _) o) y1; have Arr0 := fun o => keep_cell ((Below.refl _ _).alloc (Nat.le_refl _) o) rr0; have Arr1 := fun o => keep_cell ((Below.refl _ _).alloc (Nat.le_refl _) o) rr1; have HB := Lib.hid (belowT (belowA HB.out _) hbz); clear hbz))
  obtain ⟨Z2, hZ2⟩ : ∃ Z, w12.alloc (.cells #[.int .i64 (-ra), .int .i64 pe] 23) = Z := ⟨_, rfl⟩
  rw [hZ2]
  have HXB7 := Lib.hid (heap_old (.cells #[.int .i64 (-ra), .int .i64 pe] 23) HXB7.out)
  rw [hZ2] at HXB7
  have HXB9 := Lib.hid (heap_old (.cells #[.int .i64 (-ra), .int .i64 pe] 23) HXB9.out)
  rw [hZ2] at HXB9
  have HXB11 := Lib.hid (heap_old (.cells #[.int .i64 (-ra), .int .i64 pe] 23) HXB11.out)
  rw [hZ2] at HXB11
  have HXB13 := Lib.hid (heap_old (.cells #[.int .i64 (-ra), .int .i64 pe] 23) HXB13.out)
  rw [hZ2] at HXB13
  have HXP16 := Lib.hid (heap_old (.cells #[.int .i64 (-ra), .int .i64 pe] 23) HXP16.out)
  rw [hZ2] at HXP16
  have HXP17 := Lib.hid (heap_old (.cells #[.int .i64 (-ra), .int .i64 pe] 23) HXP17.out)
  rw [hZ2] at HXP17
  have HXP19 := Lib.hid (heap_alloc_new w12 (.cells #[.int .i64 (-ra), .int .i64 pe] 23))
  rw [hZ2] at HXP19
  have HB := Lib.hid (belowA HB.out (.cells #[.int .i64 (-ra), .int .i64 pe] 23))
  rw [hZ2] at HB
  obtain ⟨r160, r161⟩ := two_cells HXP16.out
  obtain ⟨r170, r171⟩ := two_cells HXP17.out
  obtain ⟨r190, r191⟩ := two_cells HXP19.out
  have c0 := (show Z2.cell? _ = _ from hZ2 ▸ Ac0 _); have c1 := (show Z2.cell? _ = _ from hZ2 ▸ Ac1 _)
  have y0 := (show Z2.cell? _ = _ from hZ2 ▸ Ay0 _); have y1 := (show Z2.cell? _ = _ from hZ2 ▸ Ay1 _)
  clear hZ2 Ac0 Ac1 Ay0 Ay1 r70 r71 r90 r91 r110 r111 r130 r131 HNY HP1 HP2 HP3 HP4 HM1 HM2 HA2 HVX HVY
  go_cut [140] from 111 to 139 (fun v wx => v = .bool false ∧ wx = Z2)
  case first =>
    rcases HP5.out with rfl | ⟨rfl, rfl⟩
    all_goals
      go_wp2_with fail
      go_meet
      exact ⟨rfl, rfl⟩
  case rest =>
    obtain ⟨rfl, rfl⟩ := hcut
    clear r160 r161 r170 r171 r190 r191 HXP16 HXP17 HXP19 HP5
    go_upto_region 18 with (first
      | (go_at_call 35; (with_reducible refine (HSXX.out _).mono ?_); rintro en w13 ⟨rfl, hbz⟩; have c0 := keep_cell hbz c0; have c1 := keep_cell hbz c1; have y0 := keep_cell hbz y0; have y1 := keep_cell hbz y1; have HXB7 := Lib.hid (heapB hbz (HXB7.out)); have HXB9 := Lib.hid (heapB hbz (HXB9.out)); have HXB11 := Lib.hid (heapB hbz (HXB11.out)); have HXB13 := Lib.hid (heapB hbz (HXB13.out)); have Ac0 := fun o => keep_cell ((Below.refl _ _).alloc (Nat.le_refl _) o) c0; have Ac1 := fun o => keep_cell ((Below.refl _ _).alloc (Nat.le_refl _) o) c1; have Ay0 := fun o => keep_cell ((Below.refl _ _).alloc (Nat.le_refl _) o) y0; have Ay1 := fun o => keep_cell ((Below.refl _ _).alloc (Nat.le_refl _) o) y1; have HB := Lib.hid (belowT HB.out hbz); clear hbz)
      | (go_at_call 34; (with_reducible refine (HAX0.out _).mono ?_); rintro en w14 ⟨rfl, hbz⟩; have c0 := keep_cell hbz (keep_cell ((Below.refl _ _).alloc (Nat.le_refl _) _) c0); have c1 := keep_cell hbz (keep_cell ((Below.refl _ _).alloc (Nat.le_refl _) _) c1); have y0 := keep_cell hbz (keep_cell ((Below.refl _ _).alloc (Nat.le_refl _) _) y0); have y1 := keep_cell hbz (keep_cell ((Below.refl _ _).alloc (Nat.le_refl _) _) y1); have HXB7 := Lib.hid (heapB hbz (heap_old _ HXB7.out)); have HXB9 := Lib.hid (heapB hbz (heap_old _ HXB9.out)); have HXB11 := Lib.hid (heapB hbz (heap_old _ HXB11.out)); have HXB13 := Lib.hid (heapB hbz (heap_old _ HXB13.out)); have HXO21 := Lib.hid (heapB hbz (heap_alloc_new _ _)); have hzO21 := hbz.size; simp only [World.size_alloc] at hzO21; have hyO21 := HB.out.size; have Ac0 := fun o => keep_cell ((Below.refl _ _).alloc (Nat.le_refl _) o) c0; have Ac1 := fun o => keep_cell ((Below.refl _ _).alloc (Nat.le_refl _) o) c1; have Ay0 := fun o => keep_cell ((Below.refl _ _).alloc (Nat.le_refl _) o) y0; have Ay1 := fun o => keep_cell ((Below.refl _ _).alloc (Nat.le_refl _) o) y1; have HB := Lib.hid (belowT (belowA HB.out _) hbz); clear hbz))
    obtain ⟨U, hU⟩ : ∃ Z, w14.alloc (.cells #[.int .i64 xm, .int .i64 xe] 23) = Z := ⟨_, rfl⟩
    rw [hU]
    have HXB7 := Lib.hid (heap_old (.cells #[.int .i64 xm, .int .i64 xe] 23) HXB7.out)
    rw [hU] at HXB7
    have HXB9 := Lib.hid (heap_old (.cells #[.int .i64 xm, .int .i64 xe] 23) HXB9.out)
    rw [hU] at HXB9
    have HXB11 := Lib.hid (heap_old (.cells #[.int .i64 xm, .int .i64 xe] 23) HXB11.out)
    rw [hU] at HXB11
    have HXB13 := Lib.hid (heap_old (.cells #[.int .i64 xm, .int .i64 xe] 23) HXB13.out)
    rw [hU] at HXB13
    have HXO21 := Lib.hid (heap_old (.cells #[.int .i64 xm, .int .i64 xe] 23) HXO21.out)
    rw [hU] at HXO21
    have HXO22 := Lib.hid (heap_alloc_new w14 (.cells #[.int .i64 xm, .int .i64 xe] 23))
    rw [hU] at HXO22
    have HB := Lib.hid (belowA HB.out (.cells #[.int .i64 xm, .int .i64 xe] 23))
    rw [hU] at HB
    have c0 := (show U.cell? _ = _ from hU ▸ Ac0 _); have c1 := (show U.cell? _ = _ from hU ▸ Ac1 _)
    have y0 := (show U.cell? _ = _ from hU ▸ Ay0 _); have y1 := (show U.cell? _ = _ from hU ▸ Ay1 _)
    clear hU Ac0 Ac1 Ay0 Ay1
    have HBU := HB
    have C00 := Lib.hid c0; have C01 := Lib.hid c1; have Y00 := Lib.hid y0; have Y01 := Lib.hid y1
    clear y0 y1 HB
    go_cut [12, 23] from 153 to 158 (fun v4 v3 wx => ∃ g, v3 = .pointer (some ⟨g, 0, none⟩) ∧ v4 = .int .i64 0 ∧ Hid (wx.heap[g]? = some (.cells #[.int .i64 xm, .int .i64 xe] 23 (0, 0))) ∧ Hid (Below U.heap.size U wx))
    case first =>
      have HB : Hid (Below U.heap.size U U) := Below.refl _ _
      have hbx := True.intro
      have a00 := fun o => keep_cell ((Below.refl U.heap.size U).alloc (Nat.le_refl _) o) c0
      have a01 := fun o => keep_cell ((Below.refl U.heap.size U).alloc (Nat.le_refl _) o) c1
      go_region_with (first
        | (go_at_call 61; (with_reducible refine (HS1.out _).mono ?_); rintro en w15 ⟨rfl, hbz⟩; (first | (with_reducible have hbx := heapB hbz hbx) | (with_reducible have hbx := heapB hbz (heap_old _ hbx)) | (with_reducible have hbx := heapB hbz (nb2 _ _ (.cells #[.int .i64 0, .int .i64 0] 23))) | (with_reducible have hbx := heapB hbz (heap_alloc_new _ (.cells #[.int .i64 0, .int .i64 0] 23))) | (with_reducible have hbx := heapB hbz (nbd2 _ (.cells #[.int .i64 0, .int .i64 0] 23))) | (with_reducible have hbx := heapB hbz (heap_old _ (heap_alloc_new _ (.cells #[.int .i64 0, .int .i64 0] 23)))) | skip); (first | (with_reducible have HB := Lib.hid (belowT HB.out hbz)) | (with_reducible have HB := Lib.hid (belowT HB.out.drew hbz)) | (with_reducible have HB := Lib.hid (belowT (belowA HB.out _) hbz)) | (with_reducible have HB := Lib.hid (belowT (belowA HB.out _).drew hbz)) | (with_reducible have HB := Lib.hid (belowT (belowA (belowA HB.out _) _) hbz)) | (with_reducible have HB := Lib.hid (belowT (belowA (belowA HB.out _) _).drew hbz))); have a00 := fun o => keep_cell ((Below.refl _ _).alloc (Nat.le_refl _) o) (keep_cell HB.out C00.out); have a01 := fun o => keep_cell ((Below.refl _ _).alloc (Nat.le_refl _) o) (keep_cell HB.out C01.out); have c0 := keep_cell HB.out C00.out; have c1 := keep_cell HB.out C01.out; have hsz9 := HB.out.size; clear hbz)
        | (go_at_call 46; (with_reducible refine (HMX1.out _).mono ?_); rintro en w16 ⟨rfl, hbz⟩; (first | (with_reducible have hbx := heapB hbz hbx) | (with_reducible have hbx := heapB hbz (heap_old _ hbx)) | (with_reducible have hbx := heapB hbz (nb2 _ _ (.cells #[.int .i64 0, .int .i64 0] 23))) | (with_reducible have hbx := heapB hbz (heap_alloc_new _ (.cells #[.int .i64 0, .int .i64 0] 23))) | (with_reducible have hbx := heapB hbz (nbd2 _ (.cells #[.int .i64 0, .int .i64 0] 23))) | (with_reducible have hbx := heapB hbz (heap_old _ (heap_alloc_new _ (.cells #[.int .i64 0, .int .i64 0] 23)))) | skip); (first | (with_reducible have HB := Lib.hid (belowT HB.out hbz)) | (with_reducible have HB := Lib.hid (belowT HB.out.drew hbz)) | (with_reducible have HB := Lib.hid (belowT (belowA HB.out _) hbz)) | (with_reducible have HB := Lib.hid (belowT (belowA HB.out _).drew hbz)) | (with_reducible have HB := Lib.hid (belowT (belowA (belowA HB.out _) _) hbz)) | (with_reducible have HB := Lib.hid (belowT (belowA (belowA HB.out _) _).drew hbz))); (first | (with_reducible (obtain ⟨y0, y1⟩ := two_cells hbx; have y2 := free_of_heap hbx 0; have y3 := free_of_heap hbx 1)) | skip); clear hbz))
      all_goals
        go_wp2_with fail
        go_meet
        (first
          | (obtain ⟨hp1, hp2⟩ := two_put (.int .i64 xm) (.int .i64 xe) hbx HB.out (by first | exact Nat.le_refl _ | omega); exact ⟨_, rfl, rfl, hp1, hp2⟩)
          | (obtain ⟨hp1, hp2⟩ := two_new (t := 23) (.int .i64 xm) (.int .i64 xe) HB.out; exact ⟨_, rfl, rfl, hp1, hp2⟩))
    case rest =>
      obtain ⟨P23, rfl, rfl, HXO23, HBW⟩ := hcut
      obtain ⟨T, hT⟩ : ∃ T, wc = T := ⟨_, rfl⟩
      rw [hT] at HXO23 HBW ⊢
      clear hT
      have HXB7 := Lib.hid (heapB HBW.out HXB7.out); have HXB9 := Lib.hid (heapB HBW.out HXB9.out); have HXB11 := Lib.hid (heapB HBW.out HXB11.out); have HXB13 := Lib.hid (heapB HBW.out HXB13.out); have HXO21 := Lib.hid (heapB HBW.out HXO21.out); have HXO22 := Lib.hid (heapB HBW.out HXO22.out)
      have c0 := keep_cell HBW.out C00.out; have c1 := keep_cell HBW.out C01.out
      have y0 := keep_cell HBW.out Y00.out; have y1 := keep_cell HBW.out Y01.out
      have HB := Lib.hid (belowT HBU.out HBW.out)
      clear C00 C01 Y00 Y01 HBU HBW HSXX HAX0 HMX1
      go_upto_region 20 with (first
        | (go_at_call 47; (with_reducible refine (HD1.out _).mono ?_); rintro en w17 ⟨rfl, hbz⟩; have c0 := keep_cell hbz c0; have c1 := keep_cell hbz c1; have y0 := keep_cell hbz y0; have y1 := keep_cell hbz y1; have HXB7 := Lib.hid (heapB hbz (HXB7.out)); have HXB9 := Lib.hid (heapB hbz (HXB9.out)); have HXB11 := Lib.hid (heapB hbz (HXB11.out)); have HXB13 := Lib.hid (heapB hbz (HXB13.out)); have HXO21 := Lib.hid (heapB hbz (HXO21.out)); have HXO22 := Lib.hid (heapB hbz (HXO22.out)); have HXO23 := Lib.hid (heapB hbz (HXO23.out)); have Ac0 := fun o => keep_cell ((Below.refl _ _).alloc (Nat.le_refl _) o) c0; have Ac1 := fun o => keep_cell ((Below.refl _ _).alloc (Nat.le_refl _) o) c1; have Ay0 := fun o => keep_cell ((Below.refl _ _).alloc (Nat.le_refl _) o) y0; have Ay1 := fun o => keep_cell ((Below.refl _ _).alloc (Nat.le_refl _) o) y1; have HB := Lib.hid (belowT HB.out hbz); clear hbz))
      obtain ⟨Z3, hZ3⟩ : ∃ Z, w17.alloc (.cells #[.int .i64 oa, .int .i64 oe] 23) = Z := ⟨_, rfl⟩
      rw [hZ3]
      have HXB7 := Lib.hid (heap_old (.cells #[.int .i64 oa, .int .i64 oe] 23) HXB7.out)
      rw [hZ3] at HXB7
      have HXB9 := Lib.hid (heap_old (.cells #[.int .i64 oa, .int .i64 oe] 23) HXB9.out)
      rw [hZ3] at HXB9
      have HXB11 := Lib.hid (heap_old (.cells #[.int .i64 oa, .int .i64 oe] 23) HXB11.out)
      rw [hZ3] at HXB11
      have HXB13 := Lib.hid (heap_old (.cells #[.int .i64 oa, .int .i64 oe] 23) HXB13.out)
      rw [hZ3] at HXB13
      have HXO21 := Lib.hid (heap_old (.cells #[.int .i64 oa, .int .i64 oe] 23) HXO21.out)
      rw [hZ3] at HXO21
      have HXO22 := Lib.hid (heap_old (.cells #[.int .i64 oa, .int .i64 oe] 23) HXO22.out)
      rw [hZ3] at HXO22
      have HXO23 := Lib.hid (heap_old (.cells #[.int .i64 oa, .int .i64 oe] 23) HXO23.out)
      rw [hZ3] at HXO23
      have HXO24 := Lib.hid (heap_alloc_new w17 (.cells #[.int .i64 oa, .int .i64 oe] 23))
      rw [hZ3] at HXO24
      have HB := Lib.hid (belowA HB.out (.cells #[.int .i64 oa, .int .i64 oe] 23))
      rw [hZ3] at HB
      have c0 := (show Z3.cell? _ = _ from hZ3 ▸ Ac0 _); have c1 := (show Z3.cell? _ = _ from hZ3 ▸ Ac1 _)
      have y0 := (show Z3.cell? _ = _ from hZ3 ▸ Ay0 _); have y1 := (show Z3.cell? _ = _ from hZ3 ▸ Ay1 _)
      clear hZ3 Ac0 Ac1 Ay0 Ay1
      obtain ⟨r210, r211⟩ := two_cells HXO21.out
      obtain ⟨r220, r221⟩ := two_cells HXO22.out
      obtain ⟨r230, r231⟩ := two_cells HXO23.out
      obtain ⟨r240, r241⟩ := two_cells HXO24.out
      go_upto_region 22 with fail
      clear r210 r211 r220 r221 r230 r231 HXO21 HXO22 HXO23 HXO24
      have C00 := Lib.hid c0; have C01 := Lib.hid c1; have Y00 := Lib.hid y0; have Y01 := Lib.hid y1
      have HBZ := HB
      clear y0 y1 HB
      go_cut [210] from 190 to 209 (fun v wx => v = .bool false ∧ Hid (Below Z3.heap.size Z3 wx))
      case first =>
        rcases HD2.out with ⟨h0, rfl⟩ | ⟨h0, rfl, rfl, rfl⟩
        · subst h0
          go_quiet (fail)
          go_wp2_with fail
          go_meet
          exact ⟨rfl, below_drewN (Below.refl _ _) _⟩
        · have hb1 : (xm == 0) = false := by simp [h0]
          have hb2 : (xm != 0) = true := by simp [h0]
          have hb3 : decide (xm = 0) = false := decide_eq_false h0
          have hb4 : (!decide (xm = 0)) = true := by rw [hb3]; rfl
          have HB : Hid (Below Z3.heap.size Z3 Z3.drew) := (Below.refl _ _).drew
          have R0 := Lib.hid r240; have R1 := Lib.hid r241
          first
            | (go_region_with (first
                | (go_at_call 61; (with_reducible refine (HS1.out _).mono ?_); rintro en w18 ⟨rfl, hbz⟩; have c0 := keep_cell hbz C00.out; have c1 := keep_cell hbz C01.out; have r240 := keep_cell hbz R0.out; have r241 := keep_cell hbz R1.out; have HB := Lib.hid (belowT HB.out hbz); clear hbz)))
            | fail
          all_goals
            go_wp2_with fail
            go_meet
            exact ⟨rfl, HB.out⟩
      case rest =>
        obtain ⟨rfl, HBW⟩ := hcut
        obtain ⟨T2, hT2⟩ : ∃ T, wc = T := ⟨_, rfl⟩
        rw [hT2] at HBW ⊢
        clear hT2 c0 c1 r240 r241 HD1 HD2 HS1
        have HXT13 := Lib.hid (heapB HBW.out HXB13.out)
        have HXB7 := Lib.hid (heapB HBW.out HXB7.out); have HXB9 := Lib.hid (heapB HBW.out HXB9.out); have HXB11 := Lib.hid (heapB HBW.out HXB11.out); have HXB13 := Lib.hid (heapB HBW.out HXB13.out)
        have X0 := Lib.hid (keep_cell HBW.out C00.out); have X1 := Lib.hid (keep_cell HBW.out C01.out); have Y0 := Lib.hid (keep_cell HBW.out Y00.out); have Y1 := Lib.hid (keep_cell HBW.out Y01.out)
        have HB := Lib.hid (belowT HBZ.out HBW.out)
        clear HBW HBZ C00 C01 Y00 Y01
        obtain ⟨i0, hi, hz0, hz1, hz2⟩ := info_parts info_real
        have HI := Lib.hid (And.intro hi (And.intro hz0 (And.intro hz1 hz2)))
        clear hi hz0 hz1 hz2
        have hn20 : n ≤ 20 := by omega
        go_upto_region 26 with fail
        go_loopg [25, 26] n (fun g tv iv wr => iv = .int .i64 ((g : Int) - 1) ∧ g ≤ n ∧ Hid (wr.ownsRow T2.heap.size 23 2 tv (n - g) (cellsR (l.drop g).reverse)) ∧ Hid (Below T2.heap.size T2 wr))
        case atStart => exact ⟨rfl, Nat.le_refl _, by rw [Nat.sub_self, List.drop_of_length_le (by rw [HN.out]; exact Nat.le_refl _)]; exact World.ownsRow_nil _ _ _ _, Below.refl _ _⟩
        case round =>
          obtain ⟨rfl, hg, HOW, HBR⟩ := hrel
          have hsz := HBR.out.size
          by_cases hg0 : gk = 0
          · subst hg0
            have HL0 : Hid ((l.drop 0).reverse = l.reverse) := by show _ = _; rw [List.drop_zero]
            obtain ⟨A25, c25, rfl, hR25, hc25⟩ := own_reals (n := n - 0) (l := (l.drop 0).reverse) HOW.out (by simp [HN.out])
            rw [HL0.out] at hR25
            have HS1 := Lib.hid (fun w' hr' => sumX_c A c l w' hr' HIN.out (by rw [HN.out]; omega))
            have HS2 := Lib.hid (fun w' hr' => sumX_c A25 c25 l.reverse w' hr' (fun p hp => HIN.out p (List.mem_reverse.1 hp)) (by rw [List.length_reverse, HN.out]; omega))
            rw [sumX_reverse, List.length_reverse] at HS2
            rw [HN.out] at HS1 HS2
            obtain ⟨s1, s2, s3, hsf⟩ := sumX_form l
            rw [hsf] at HS1 HS2
            have HO25 : Hid (wr.ownsRow T2.heap.size 23 2 (.slice A25 (n - 0) c25) (n - 0) (cellsR l.reverse)) := by show World.ownsRow _ _ _ _ _ _ _; rw [← HL0.out]; exact HOW.out
            have HBT := Lib.hid (belowT HB.out HBR.out)
            have HXB7 := Lib.hid (heapB HBR.out HXB7.out); have HXB9 := Lib.hid (heapB HBR.out HXB9.out); have HXB11 := Lib.hid (heapB HBR.out HXB11.out); have HXB13 := Lib.hid (heapB HBR.out HXB13.out)
            have c0 := keep_cell HBR.out X0.out; have c1 := keep_cell HBR.out X1.out; have y0 := keep_cell HBR.out Y0.out; have y1 := keep_cell HBR.out Y1.out
            have HSXY := Lib.hid (fun (A' : Option Addr) w' hr' => sumX_c A' 2 [(xm, xe), (ym, ye)] w' hr' (by intro p hp; simp at hp; rcases hp with rfl | rfl <;> exact ⟨by assumption, by assumption⟩) (by simp))
            rw [HA3.out] at HSXY
            simp only [List.length_cons, List.length_nil] at HSXY
            have HRT := Lib.hid (HR.out.below HBT.out)
            have hz13 : w7.heap.size < T2.heap.size := (Array.getElem?_eq_some_iff.1 HXT13.out).1
            have hzW := HSZ.out
            have HZ7 := Lib.hid (show w5.heap.size ≠ w4.heap.size ∧ w6.heap.size ≠ w4.heap.size ∧ w7.heap.size ≠ w4.heap.size ∧ w.heap.size ≠ w4.heap.size ∧ w.heap.size + 1 ≠ w4.heap.size ∧ w4.heap.size < T2.heap.size ∧ W.heap.size ≤ w4.heap.size from by omega)
            have HZ9 := Lib.hid (show w4.heap.size ≠ w5.heap.size ∧ w6.heap.size ≠ w5.heap.size ∧ w7.heap.size ≠ w5.heap.size ∧ w.heap.size ≠ w5.heap.size ∧ w.heap.size + 1 ≠ w5.heap.size ∧ w5.heap.size < T2.heap.size ∧ W.heap.size ≤ w5.heap.size from by omega)
            have HZ11 := Lib.hid (show w4.heap.size ≠ w6.heap.size ∧ w5.heap.size ≠ w6.heap.size ∧ w7.heap.size ≠ w6.heap.size ∧ w.heap.size ≠ w6.heap.size ∧ w.heap.size + 1 ≠ w6.heap.size ∧ w6.heap.size < T2.heap.size ∧ W.heap.size ≤ w6.heap.size from by omega)
            have HZ13 := Lib.hid (show w4.heap.size ≠ w7.heap.size ∧ w5.heap.size ≠ w7.heap.size ∧ w6.heap.size ≠ w7.heap.size ∧ w.heap.size ≠ w7.heap.size ∧ w.heap.size + 1 ≠ w7.heap.size ∧ w7.heap.size < T2.heap.size ∧ W.heap.size ≤ w7.heap.size from by omega)
            clear hsf HOW HBR hR25 hzW hz13 hzB7 hzB9 hzB11 hyB7 hyB9 hyB11
            go_upto_region 30 with (first
              | (go_at_call 40; (with_reducible refine (HS1.out _ HRT.out).mono ?_); rintro en w20 ⟨rfl, hbz⟩; have HXB7 := Lib.hid (heapB hbz (HXB7.out)); have HXB9 := Lib.hid (heapB hbz (HXB9.out)); have HXB11 := Lib.hid (heapB hbz (HXB11.out)); have HXB13 := Lib.hid (heapB hbz (HXB13.out)); have c0 := keep_cell hbz c0; have c1 := keep_cell hbz c1; have y0 := keep_cell hbz y0; have y1 := keep_cell hbz y1; have HO25 := Lib.hid (own_bel HO25.out hbz); have HBT := Lib.hid (belowT HBT.out hbz); obtain ⟨v0, v1⟩ := two_cells HXB7.out; have f0 := free_of_heap HXB7.out 0; have f1 := free_of_heap HXB7.out 1; clear hbz))
            obtain ⟨G1, hG1, hq, ho, hbk⟩ := two_put9 (.int .i64 s1) (.int .i64 s2) HXB7.out
            rw [hG1]
            have HXB7 := Lib.hid hq
            have HXB9 := Lib.hid ((ho _ HZ7.out.1).trans HXB9.out)
            have HXB11 := Lib.hid ((ho _ HZ7.out.2.1).trans HXB11.out)
            have HXB13 := Lib.hid ((ho _ HZ7.out.2.2.1).trans HXB13.out)
            have c0 := (World.cell?_of_block (w := w20) (a := ⟨w.heap.size, 0, none⟩) (ho _ HZ7.out.2.2.2.1)).trans c0; have c1 := (World.cell?_of_block (w := w20) (a := ⟨w.heap.size, 1, none⟩) (ho _ HZ7.out.2.2.2.1)).trans c1
            have y0 := (World.cell?_of_block (w := w20) (a := ⟨w.heap.size + 1, 0, none⟩) (ho _ HZ7.out.2.2.2.2.1)).trans y0; have y1 := (World.cell?_of_block (w := w20) (a := ⟨w.heap.size + 1, 1, none⟩) (ho _ HZ7.out.2.2.2.2.1)).trans y1
            have HO25 := Lib.hid (own_at HO25.out ho HZ7.out.2.2.2.2.2.1)
            have HBT := Lib.hid (hbk _ _ HZ7.out.2.2.2.2.2.2 HBT.out)
            clear hG1 hq ho hbk
            obtain ⟨A26, c26, e26, hR26, -⟩ := own_reals HO25.out (by rw [List.length_reverse, HN.out, Nat.sub_zero])
            cases e26
            have HR26 := Lib.hid hR26
            clear hR26
            go_upto_region 31 with (first
              | (go_at_call 40; (with_reducible refine (HS2.out _ HR26.out).mono ?_); rintro en w21 ⟨rfl, hbz⟩; have HXB7 := Lib.hid (heapB hbz (HXB7.out)); have HXB9 := Lib.hid (heapB hbz (HXB9.out)); have HXB11 := Lib.hid (heapB hbz (HXB11.out)); have HXB13 := Lib.hid (heapB hbz (HXB13.out)); have c0 := keep_cell hbz c0; have c1 := keep_cell hbz c1; have y0 := keep_cell hbz y0; have y1 := keep_cell hbz y1; have HBT := Lib.hid (belowT HBT.out hbz); obtain ⟨v0, v1⟩ := two_cells HXB9.out; have f0 := free_of_heap HXB9.out 0; have f1 := free_of_heap HXB9.out 1; clear hbz))
            obtain ⟨G2, hG2, hq, ho, hbk⟩ := two_put9 (.int .i64 s1) (.int .i64 s2) HXB9.out
            rw [hG2]
            have HXB9 := Lib.hid hq
            have HXB7 := Lib.hid ((ho _ HZ9.out.1).trans HXB7.out)
            have HXB11 := Lib.hid ((ho _ HZ9.out.2.1).trans HXB11.out)
            have HXB13 := Lib.hid ((ho _ HZ9.out.2.2.1).trans HXB13.out)
            have c0 := (World.cell?_of_block (w := w21) (a := ⟨w.heap.size, 0, none⟩) (ho _ HZ9.out.2.2.2.1)).trans c0; have c1 := (World.cell?_of_block (w := w21) (a := ⟨w.heap.size, 1, none⟩) (ho _ HZ9.out.2.2.2.1)).trans c1
            have y0 := (World.cell?_of_block (w := w21) (a := ⟨w.heap.size + 1, 0, none⟩) (ho _ HZ9.out.2.2.2.2.1)).trans y0; have y1 := (World.cell?_of_block (w := w21) (a := ⟨w.heap.size + 1, 1, none⟩) (ho _ HZ9.out.2.2.2.2.1)).trans y1
            have HBT := Lib.hid (hbk _ _ HZ9.out.2.2.2.2.2.2 HBT.out)
            clear hG2 hq ho hbk
            go_upto_region 32 with (first
              | (go_at_call 40; (with_reducible refine (HSXY.out _ _ (reals_two (heap_alloc_new _ _))).mono ?_); rintro en w22 ⟨rfl, hbz⟩; have HXB7 := Lib.hid (heapB hbz (heap_old _ HXB7.out)); have HXB9 := Lib.hid (heapB hbz (heap_old _ HXB9.out)); have HXB11 := Lib.hid (heapB hbz (heap_old _ HXB11.out)); have HXB13 := Lib.hid (heapB hbz (heap_old _ HXB13.out)); have c0 := keep_cell hbz (keep_cell ((Below.refl _ _).alloc (Nat.le_refl _) _) c0); have c1 := keep_cell hbz (keep_cell ((Below.refl _ _).alloc (Nat.le_refl _) _) c1); have y0 := keep_cell hbz (keep_cell ((Below.refl _ _).alloc (Nat.le_refl _) _) y0); have y1 := keep_cell hbz (keep_cell ((Below.refl _ _).alloc (Nat.le_refl _) _) y1); have HBT := Lib.hid (belowT (belowA HBT.out _) hbz); obtain ⟨v0, v1⟩ := two_cells HXB11.out; have f0 := free_of_heap HXB11.out 0; have f1 := free_of_heap HXB11.out 1; clear hbz))
            obtain ⟨G3, hG3, hq, ho, hbk⟩ := two_put9 (.int .i64 a1) (.int .i64 a2) HXB11.out
            rw [hG3]
            have HXB11 := Lib.hid hq
            have HXB7 := Lib.hid ((ho _ HZ11.out.1).trans HXB7.out)
            have HXB9 := Lib.hid ((ho _ HZ11.out.2.1).trans HXB9.out)
            have HXB13 := Lib.hid ((ho _ HZ11.out.2.2.1).trans HXB13.out)
            have c0 := (World.cell?_of_block (w := w22) (a := ⟨w.heap.size, 0, none⟩) (ho _ HZ11.out.2.2.2.1)).trans c0; have c1 := (World.cell?_of_block (w := w22) (a := ⟨w.heap.size, 1, none⟩) (ho _ HZ11.out.2.2.2.1)).trans c1
            have y0 := (World.cell?_of_block (w := w22) (a := ⟨w.heap.size + 1, 0, none⟩) (ho _ HZ11.out.2.2.2.2.1)).trans y0; have y1 := (World.cell?_of_block (w := w22) (a := ⟨w.heap.size + 1, 1, none⟩) (ho _ HZ11.out.2.2.2.2.1)).trans y1
            have HBT := Lib.hid (hbk _ _ HZ11.out.2.2.2.2.2.2 HBT.out)
            clear hG3 hq ho hbk
            go_upto_region 33 with (first
              | (go_at_call 34; (with_reducible refine (HA1.out _).mono ?_); rintro en w23 ⟨rfl, hbz⟩; have HXB7 := Lib.hid (heapB hbz (HXB7.out)); have HXB9 := Lib.hid (heapB hbz (HXB9.out)); have HXB11 := Lib.hid (heapB hbz (HXB11.out)); have HXB13 := Lib.hid (heapB hbz (HXB13.out)); have c0 := keep_cell hbz c0; have c1 := keep_cell hbz c1; have y0 := keep_cell hbz y0; have y1 := keep_cell hbz y1; have HBT := Lib.hid (belowT HBT.out hbz); obtain ⟨v0, v1⟩ := two_cells HXB13.out; have f0 := free_of_heap HXB13.out 0; have f1 := free_of_heap HXB13.out 1; clear hbz))
            obtain ⟨G4, hG4, hq, ho, hbk⟩ := two_put9 (.int .i64 a1) (.int .i64 a2) HXB13.out
            rw [hG4]
            have HXB13 := Lib.hid hq
            have HXB7 := Lib.hid ((ho _ HZ13.out.1).trans HXB7.out)
            have HXB9 := Lib.hid ((ho _ HZ13.out.2.1).trans HXB9.out)
            have HXB11 := Lib.hid ((ho _ HZ13.out.2.2.1).trans HXB11.out)
            have c0 := (World.cell?_of_block (w := w23) (a := ⟨w.heap.size, 0, none⟩) (ho _ HZ13.out.2.2.2.1)).trans c0; have c1 := (World.cell?_of_block (w := w23) (a := ⟨w.heap.size, 1, none⟩) (ho _ HZ13.out.2.2.2.1)).trans c1
            have y0 := (World.cell?_of_block (w := w23) (a := ⟨w.heap.size + 1, 0, none⟩) (ho _ HZ13.out.2.2.2.2.1)).trans y0; have y1 := (World.cell?_of_block (w := w23) (a := ⟨w.heap.size + 1, 1, none⟩) (ho _ HZ13.out.2.2.2.2.1)).trans y1
            have HBT := Lib.hid (hbk _ _ HZ13.out.2.2.2.2.2.2 HBT.out)
            clear hG4 hq ho hbk
            go_wp2_with (first
              | (go_at_call 25; (with_reducible refine (HSAN.out _ (HT.out.below HBT.out)).mono ?_); rintro en w24 ⟨rfl, hbz⟩; obtain ⟨r70, r71⟩ := two_cells (heapB hbz HXB7.out); obtain ⟨r90, r91⟩ := two_cells (heapB hbz HXB9.out); obtain ⟨r110, r111⟩ := two_cells (heapB hbz HXB11.out); obtain ⟨r130, r131⟩ := two_cells (heapB hbz HXB13.out); have HBT := Lib.hid (belowT HBT.out hbz); clear hbz))
            go_ret
            exact ⟨rfl, belowT HBEL.out HBT.out⟩
          · obtain ⟨k, rfl⟩ : ∃ k, gk = k + 1 := ⟨gk - 1, by omega⟩
            have hkl : k < l.length := by rw [HN.out]; omega
            obtain ⟨a, hAe, hc0, hc1⟩ := (HR.out.below (belowT HB.out HBR.out)) k hkl
            obtain ⟨m, e, hme⟩ : ∃ m e, l[k]?.getD (0, 0) = (m, e) := ⟨_, _, rfl⟩
            rw [hme] at hc0 hc1
            dsimp only at hc0 hc1
            have hc1' : wr.cell? { block := (a.add (k * 2)).block, off := (a.add (k * 2)).off + 1, spot := none } = some (.int .i64 e) := hc1
            have HME : Hid ((l.drop k).reverse = (l.drop (k + 1)).reverse ++ [(m, e)]) := by
              show _ = _
              rw [List.drop_eq_getElem_cons hkl, List.reverse_cons]
              congr 2
              rw [List.getElem?_eq_getElem hkl] at hme
              exact hme
            have hkn : (k : Int) < (n : Int) := by omega
            have hgk : ((k + 1 : Nat) : Int) - 1 = (k : Int) := by omega
            rw [hgk]
            clear hme
            subst hAe
            go_wp2_with (first
              | (at_builtin; refine wpList_append_own _ rfl _ _ 45 rfl T2.heap.size 23 i0 (.agg #[.int .i64 0, .int .i64 0]) 2 16 Tryz.underlying45 HI.out.1 HI.out.2.1 HI.out.2.2.1 HI.out.2.2.2 rfl (by decide) _ _ _ rfl (HOW.out.alloc _) ⟨wr.heap.size, 0, none⟩ 1 1 [.int .i64 m, .int .i64 e] rfl rfl (World.news_of_block (heap_alloc_new _ _)) (by simp [Value.oneCell']) (by unfold maxLen; omega) (by omega) (by simp; omega) ?_; intro v' w3 hown1 hgrow1 _; have HO1 := Lib.hid hown1; have HG1 := Lib.hid hgrow1; clear hown1 hgrow1))
            go_roundg k
            case measure => omega
            case rel =>
              refine ⟨by go_num, by omega, ?_, ?_⟩
              · show World.ownsRow _ _ _ _ _ _ _
                rw [HME.out, cellsR_snoc, show n - k = n - (k + 1) + 1 by omega]
                exact HO1.out
              · exact (HBR.out.alloc hsz _).grown HG1.out (by simp; omega) (own_fromR HOW.out)
end Go.Proofs.YtekbfommnmikbaaGreatDoor
