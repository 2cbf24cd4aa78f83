/- The reference's Cut. -/
import Derived.Test.YtbjgpbdkofadiaaGreatDoorRefL
import Derived.Test.YtbjgpbdkofadiaaGreatDoorRefK
namespace Go.Proofs.YtbjgpbdkofadiaaGreatDoor
set_option linter.unusedVariables false
set_option linter.unusedSimpArgs false
open Go.RowKit Go.Shelf

/-- A pair of the reference's integers. -/
def Pr (w : World) (v : Value) (x y : Int) : Prop := ∃ p q b1 b2, v = .agg #[p, .bool b1, q, .bool b2] ∧ Ri w (.agg #[p, .bool b1]) x ∧ Ri w (.agg #[q, .bool b2]) y
/-- A call returns such a pair, newly. -/
def PrP (x y : Int) (w : World) (e : Ending) (w' : World) : Prop := ∃ v, e = .returned v ∧ Pr w' v x y ∧ Below w.heap.size w w'
theorem Pr.form {w : World} {v : Value} {x y : Int} (h : Pr w v x y) : ∃ A n c b A' n' c' b', v = .agg #[.slice A n c, .bool b, .slice A' n' c', .bool b'] := by
  obtain ⟨p, q, b1, b2, rfl, hp, hq⟩ := h
  obtain ⟨A, n, c, b, e⟩ := hp.form
  obtain ⟨A', n', c', b', e'⟩ := hq.form
  simp at e e'
  exact ⟨A, n, c, b1, A', n', c', b2, by rw [e.1, e'.1]⟩
theorem Pr.parts {w : World} {p q : Value} {b1 b2 : Bool} {x y : Int} (h : Pr w (.agg #[p, .bool b1, q, .bool b2]) x y) : Ri w (.agg #[p, .bool b1]) x ∧ Ri w (.agg #[q, .bool b2]) y := by
  obtain ⟨p', q', c1, c2, e, hp, hq⟩ := h
  simp at e
  obtain ⟨rfl, rfl, rfl, rfl⟩ := e
  exact ⟨hp, hq⟩
theorem Pr.below {w w' : World} {v : Value} {x y : Int} (h : Pr w v x y) (hb : Below w.heap.size w w') : Pr w' v x y := by
  obtain ⟨p, q, b1, b2, rfl, hp, hq⟩ := h
  exact ⟨p, q, b1, b2, rfl, hp.below hb, hq.below hb⟩
theorem cut_signs (x y : Int) : ((decide (x < 0) != decide (y < 0)) && decide (0 < x.natAbs / y.natAbs)) = decide (x.tdiv y < 0) ∧ (decide (x < 0) && decide (0 < x.natAbs % y.natAbs)) = decide (x.tmod y < 0) := by
  have h1 : (x.tdiv y).natAbs = x.natAbs / y.natAbs := Int.natAbs_tdiv ..
  have h2 : (x.tmod y).natAbs = x.natAbs % y.natAbs := Int.natAbs_tmod ..
  constructor
  · rw [← h1]
    have k1 : 0 ≤ x → 0 ≤ y → 0 ≤ x.tdiv y := Int.tdiv_nonneg
    have k2 : x ≤ 0 → 0 ≤ y → x.tdiv y ≤ 0 := fun h h' => by have := Int.tdiv_nonneg (a := -x) (b := y) (by omega) h'; rw [Int.neg_tdiv] at this; omega
    have k3 : 0 ≤ x → y ≤ 0 → x.tdiv y ≤ 0 := fun h h' => by have := Int.tdiv_nonneg (a := x) (b := -y) h (by omega); rw [Int.tdiv_neg] at this; omega
    have k4 : x ≤ 0 → y ≤ 0 → 0 ≤ x.tdiv y := fun h h' => by have := Int.tdiv_nonneg (a := -x) (b := -y) (by omega) (by omega); rw [Int.tdiv_neg, Int.neg_tdiv] at this; omega
    clear h1 h2
    generalize x.tdiv y = t at *
    rw [Bool.eq_iff_iff]
    by_cases hx : x < 0 <;> by_cases hy : y < 0 <;> simp [hx, hy] <;> omega
  · rw [← h2]
    have k1 : 0 ≤ x → 0 ≤ x.tmod y := fun h => Int.tmod_nonneg y h
    have k2 : x ≤ 0 → x.tmod y ≤ 0 := fun h => by have := Int.tmod_nonneg (a := -x) y (by omega); rw [Int.neg_tmod] at this; omega
    clear h1 h2
    generalize x.tmod y = t at *
    rw [Bool.eq_iff_iff]
    simp
    omega
/-- Four stores into a box of a pair. -/
theorem pr_set {W2 : World} {B m n : Nat} {p q : Value} (b1 b2 : Bool) {z0 z1 z2 z3 : Value} (h0 : W2.cell? ⟨B, 0, none⟩ = some z0) (h1 : W2.cell? ⟨B, 1, none⟩ = some z1) (h2 : W2.cell? ⟨B, 2, none⟩ = some z2) (h3 : W2.cell? ⟨B, 3, none⟩ = some z3)
    (hp : Dg 10 W2 p m) (hq : Dg 10 W2 q n) (fp : FromB (B + 1) p) (fq : FromB (B + 1) q) :
    ∃ F, (((W2.setCell ⟨B, 0, none⟩ p).setCell ⟨B, 1, none⟩ (.bool b1)).setCell ⟨B, 2, none⟩ q).setCell ⟨B, 3, none⟩ (.bool b2) = F ∧ F.cell? ⟨B, 0, none⟩ = some p ∧ F.cell? ⟨B, 1, none⟩ = some (.bool b1) ∧ F.cell? ⟨B, 2, none⟩ = some q ∧ F.cell? ⟨B, 3, none⟩ = some (.bool b2) ∧ Dg 10 F p m ∧ Dg 10 F q n ∧ (∀ k w, k ≤ B → Below k w W2 → Below k w F) := by
  have k3 := set_other (a := ⟨B, 2, none⟩) q (by simp) (set_other (a := ⟨B, 1, none⟩) (.bool b1) (by simp) (set_other (a := ⟨B, 0, none⟩) p (by simp) h3))
  have k2 := set_other (a := ⟨B, 1, none⟩) (.bool b1) (by simp) (set_other (a := ⟨B, 0, none⟩) p (by simp) h2)
  refine ⟨_, rfl, set_other _ (by simp) (set_other _ (by simp) (set_other _ (by simp) (set_same _ h0))), set_other _ (by simp) (set_other _ (by simp) (set_same _ (set_other _ (by simp) h1))), set_other _ (by simp) (set_same _ k2), set_same _ k3, ?_, ?_, fun k w hk hb => (((hb.setCell hk _).setCell hk _).setCell hk _).setCell hk _⟩
  · exact (((hp.set fp (by simp) _).set fp (by simp) _).set fp (by simp) _).set fp (by simp) _
  · exact (((hq.set fq (by simp) _).set fq (by simp) _).set fq (by simp) _).set fq (by simp) _
set_option maxRecDepth 100000 in
set_option maxHeartbeats 4000000 in
theorem rcut_c (v1 v2 : Value) (x y : Int) (w : World) (h1 : Ri w v1 x) (h2 : Ri w v2 y) (hy : y ≠ 0) (hm : (dg 10 x.natAbs).length ≤ 1000000) (hn : (dg 10 y.natAbs).length ≤ 999999) :
    Calls Tryz.prog 29 #[v1, v2] w (PrP (x.tdiv y) (x.tmod y) w) := by
  obtain ⟨s1, s2⟩ := cut_signs x y
  rw [len_pos] at s1 s2
  obtain ⟨LQ, hLQ⟩ : ∃ L, (dg 10 (x.natAbs / y.natAbs)).length = L := ⟨_, rfl⟩
  obtain ⟨LR, hLR⟩ : ∃ L, (dg 10 (x.natAbs % y.natAbs)).length = L := ⟨_, rfl⟩
  rw [hLQ] at s1
  rw [hLR] at s2
  obtain ⟨t1, ht1⟩ : ∃ t, decide (x.tdiv y < 0) = t := ⟨_, rfl⟩
  obtain ⟨t2, ht2⟩ : ∃ t, decide (x.tmod y < 0) = t := ⟨_, rfl⟩
  rw [ht1] at s1
  rw [ht2] at s2
  obtain ⟨A1, n1, c1, bx, rfl⟩ := h1.form
  obtain ⟨A2, n2, c2, by_, rfl⟩ := h2.form
  obtain ⟨-, hbx⟩ := ri_parts h1
  obtain ⟨-, hby⟩ := ri_parts h2
  rw [← hbx, ← hby] at s1
  rw [← hbx] at s2
  obtain ⟨p1, e1, hp1⟩ := h1
  obtain ⟨p2, e2, hp2⟩ := h2
  have HS1 := Lib.hid s1; have HS2 := Lib.hid s2; have HT1 := Lib.hid ht1; have HT2 := Lib.hid ht2; have HLQ := Lib.hid hLQ; have HLR := Lib.hid hLR
  have HM := Lib.hid (And.intro hm (And.intro hn (show 0 < y.natAbs by omega)))
  have HP : Hid (Dg 10 w (.slice A1 n1 c1) x.natAbs) := by obtain ⟨e, -⟩ := (by simpa using e1 : _ ∧ _); show Dg 10 w _ _; rw [e]; exact hp1
  have HQ : Hid (Dg 10 w (.slice A2 n2 c2) y.natAbs) := by obtain ⟨e, -⟩ := (by simpa using e2 : _ ∧ _); show Dg 10 w _ _; rw [e]; exact hp2
  clear s1 s2 ht1 ht2 hLQ hLR hm hn hbx hby e1 e2 hp1 hp2 hy
  obtain ⟨W, hW, hh0, hh1, hh2, hbel, hsz⟩ := boxes3h w #[.slice A1 n1 c1, .bool bx] #[.slice A2 n2 c2, .bool by_] #[.slice none 0 0, .bool false, .slice none 0 0, .bool false] 32 32 42
  have c00 := cell_of_heap hh0 0; have c01 := cell_of_heap hh0 1; have c10 := cell_of_heap hh1 0; have c11 := cell_of_heap hh1 1
  simp at c00 c01 c10 c11
  have HH2 := Lib.hid hh2
  have HBEL := Lib.hid hbel.to
  have HSZ := Lib.hid hsz
  clear hh0 hh1 hh2 hbel hsz
  cases bx
  · cases by_
    · go_enter Tryz.func29, Tryz.ntmps29
      go_wp2_with (go_at_call 67; (with_reducible refine (natDiv_c _ _ x.natAbs y.natAbs _ (HP.out.below HBEL.out) (HQ.out.below HBEL.out) HM.out.2.2 HM.out.1 HM.out.2.1).mono ?_); rintro e W2 ⟨q, r, rfl, hq, hr, fq, fr, hbz⟩; have HDQ := Lib.hid hq; have HDR := Lib.hid hr; have HFQ := Lib.hid fq; have HFR := Lib.hid fr; obtain ⟨A3, c3, hv, -, -, -⟩ := hq; rw [HLQ.out] at hv; subst hv; obtain ⟨A4, c4, hv, -, -, -⟩ := hr; rw [HLR.out] at hv; subst hv; have HB2 := Lib.hid hbz; have a00 := fun o => keep_cell (hbz.alloc hbz.size o) c00; have a01 := fun o => keep_cell (hbz.alloc hbz.size o) c01; have a10 := fun o => keep_cell (hbz.alloc hbz.size o) c10; have a11 := fun o => keep_cell (hbz.alloc hbz.size o) c11; have hx := fun o => heap_below HH2.out (hbz.alloc hbz.size o); have a20 := fun o => cell_of_heap (hx o) 0; have a21 := fun o => cell_of_heap (hx o) 1; have a22 := fun o => cell_of_heap (hx o) 2; have a23 := fun o => cell_of_heap (hx o) 3; have f20 := fun o => free_of_heap (hx o) 0; have f21 := fun o => free_of_heap (hx o) 1; have f22 := fun o => free_of_heap (hx o) 2; have f23 := fun o => free_of_heap (hx o) 3; simp at a20 a21 a22 a23; clear hbz fq fr c00 c01 c10 c11 hx)
      obtain ⟨F, hF, r0, r1, r2, r3, hd0, hd1, hbf⟩ := pr_set false false (a20 _) (a21 _) (a22 _) (a23 _) (HDQ.out.below ((Below.refl _ _).alloc (Nat.le_refl _) (.cells #[.slice A3 LQ c3, .slice A4 LR c4] 85))) (HDR.out.below ((Below.refl _ _).alloc (Nat.le_refl _) _)) (HFQ.out.mono (Nat.le_of_eq HSZ.out.symm)) (HFR.out.mono (Nat.le_of_eq HSZ.out.symm))
      rw [hF]
      refine bodyPost_ret (v := .agg #[.slice A3 LQ c3, .bool false, .slice A4 LR c4, .bool false]) (by simp [results, Tryz.results29, go_sem, r0, r1, r2, r3]) rfl ?_
      have e1 := HS1.out
      have e2 := HS2.out
      simp only [bne_self_eq_false, Bool.false_and, Bool.true_and, show (true != false) = true from rfl, show (false != true) = true from rfl] at e1 e2
      exact ⟨_, rfl, ⟨_, _, _, _, rfl, ⟨_, by rw [HT1.out, ← e1], by rw [Int.natAbs_tdiv]; exact hd0⟩, ⟨_, by rw [HT2.out, ← e2], by rw [Int.natAbs_tmod]; exact hd1⟩⟩, hbf _ _ (by omega) (below_then' HBEL.out (HB2.out.alloc HB2.out.size _))⟩
    · go_enter Tryz.func29, Tryz.ntmps29
      go_wp2_with (go_at_call 67; (with_reducible refine (natDiv_c _ _ x.natAbs y.natAbs _ (HP.out.below HBEL.out) (HQ.out.below HBEL.out) HM.out.2.2 HM.out.1 HM.out.2.1).mono ?_); rintro e W2 ⟨q, r, rfl, hq, hr, fq, fr, hbz⟩; have HDQ := Lib.hid hq; have HDR := Lib.hid hr; have HFQ := Lib.hid fq; have HFR := Lib.hid fr; obtain ⟨A3, c3, hv, -, -, -⟩ := hq; rw [HLQ.out] at hv; subst hv; obtain ⟨A4, c4, hv, -, -, -⟩ := hr; rw [HLR.out] at hv; subst hv; have HB2 := Lib.hid hbz; have a00 := fun o => keep_cell (hbz.alloc hbz.size o) c00; have a01 := fun o => keep_cell (hbz.alloc hbz.size o) c01; have a10 := fun o => keep_cell (hbz.alloc hbz.size o) c10; have a11 := fun o => keep_cell (hbz.alloc hbz.size o) c11; have hx := fun o => heap_below HH2.out (hbz.alloc hbz.size o); have a20 := fun o => cell_of_heap (hx o) 0; have a21 := fun o => cell_of_heap (hx o) 1; have a22 := fun o => cell_of_heap (hx o) 2; have a23 := fun o => cell_of_heap (hx o) 3; have f20 := fun o => free_of_heap (hx o) 0; have f21 := fun o => free_of_heap (hx o) 1; have f22 := fun o => free_of_heap (hx o) 2; have f23 := fun o => free_of_heap (hx o) 3; simp at a20 a21 a22 a23; clear hbz fq fr c00 c01 c10 c11 hx)
      obtain ⟨F, hF, r0, r1, r2, r3, hd0, hd1, hbf⟩ := pr_set (decide (0 < LQ)) false (a20 _) (a21 _) (a22 _) (a23 _) (HDQ.out.below ((Below.refl _ _).alloc (Nat.le_refl _) (.cells #[.slice A3 LQ c3, .slice A4 LR c4] 85))) (HDR.out.below ((Below.refl _ _).alloc (Nat.le_refl _) _)) (HFQ.out.mono (Nat.le_of_eq HSZ.out.symm)) (HFR.out.mono (Nat.le_of_eq HSZ.out.symm))
      rw [hF]
      refine bodyPost_ret (v := .agg #[.slice A3 LQ c3, .bool (decide (0 < LQ)), .slice A4 LR c4, .bool false]) (by simp [results, Tryz.results29, go_sem, r0, r1, r2, r3]) rfl ?_
      have e1 := HS1.out
      have e2 := HS2.out
      simp only [bne_self_eq_false, Bool.false_and, Bool.true_and, show (true != false) = true from rfl, show (false != true) = true from rfl] at e1 e2
      exact ⟨_, rfl, ⟨_, _, _, _, rfl, ⟨_, by rw [HT1.out, ← e1], by rw [Int.natAbs_tdiv]; exact hd0⟩, ⟨_, by rw [HT2.out, ← e2], by rw [Int.natAbs_tmod]; exact hd1⟩⟩, hbf _ _ (by omega) (below_then' HBEL.out (HB2.out.alloc HB2.out.size _))⟩
  · cases by_
    · go_enter Tryz.func29, Tryz.ntmps29
      go_wp2_with (go_at_call 67; (with_reducible refine (natDiv_c _ _ x.natAbs y.natAbs _ (HP.out.below HBEL.out) (HQ.out.below HBEL.out) HM.out.2.2 HM.out.1 HM.out.2.1).mono ?_); rintro e W2 ⟨q, r, rfl, hq, hr, fq, fr, hbz⟩; have HDQ := Lib.hid hq; have HDR := Lib.hid hr; have HFQ := Lib.hid fq; have HFR := Lib.hid fr; obtain ⟨A3, c3, hv, -, -, -⟩ := hq; rw [HLQ.out] at hv; subst hv; obtain ⟨A4, c4, hv, -, -, -⟩ := hr; rw [HLR.out] at hv; subst hv; have HB2 := Lib.hid hbz; have a00 := fun o => keep_cell (hbz.alloc hbz.size o) c00; have a01 := fun o => keep_cell (hbz.alloc hbz.size o) c01; have a10 := fun o => keep_cell (hbz.alloc hbz.size o) c10; have a11 := fun o => keep_cell (hbz.alloc hbz.size o) c11; have hx := fun o => heap_below HH2.out (hbz.alloc hbz.size o); have a20 := fun o => cell_of_heap (hx o) 0; have a21 := fun o => cell_of_heap (hx o) 1; have a22 := fun o => cell_of_heap (hx o) 2; have a23 := fun o => cell_of_heap (hx o) 3; have f20 := fun o => free_of_heap (hx o) 0; have f21 := fun o => free_of_heap (hx o) 1; have f22 := fun o => free_of_heap (hx o) 2; have f23 := fun o => free_of_heap (hx o) 3; simp at a20 a21 a22 a23; clear hbz fq fr c00 c01 c10 c11 hx)
      obtain ⟨F, hF, r0, r1, r2, r3, hd0, hd1, hbf⟩ := pr_set (decide (0 < LQ)) (decide (0 < LR)) (a20 _) (a21 _) (a22 _) (a23 _) (HDQ.out.below ((Below.refl _ _).alloc (Nat.le_refl _) (.cells #[.slice A3 LQ c3, .slice A4 LR c4] 85))) (HDR.out.below ((Below.refl _ _).alloc (Nat.le_refl _) _)) (HFQ.out.mono (Nat.le_of_eq HSZ.out.symm)) (HFR.out.mono (Nat.le_of_eq HSZ.out.symm))
      rw [hF]
      refine bodyPost_ret (v := .agg #[.slice A3 LQ c3, .bool (decide (0 < LQ)), .slice A4 LR c4, .bool (decide (0 < LR))]) (by simp [results, Tryz.results29, go_sem, r0, r1, r2, r3]) rfl ?_
      have e1 := HS1.out
      have e2 := HS2.out
      simp only [bne_self_eq_false, Bool.false_and, Bool.true_and, show (true != false) = true from rfl, show (false != true) = true from rfl] at e1 e2
      exact ⟨_, rfl, ⟨_, _, _, _, rfl, ⟨_, by rw [HT1.out, ← e1], by rw [Int.natAbs_tdiv]; exact hd0⟩, ⟨_, by rw [HT2.out, ← e2], by rw [Int.natAbs_tmod]; exact hd1⟩⟩, hbf _ _ (by omega) (below_then' HBEL.out (HB2.out.alloc HB2.out.size _))⟩
    · go_enter Tryz.func29, Tryz.ntmps29
      go_wp2_with (go_at_call 67; (with_reducible refine (natDiv_c _ _ x.natAbs y.natAbs _ (HP.out.below HBEL.out) (HQ.out.below HBEL.out) HM.out.2.2 HM.out.1 HM.out.2.1).mono ?_); rintro e W2 ⟨q, r, rfl, hq, hr, fq, fr, hbz⟩; have HDQ := Lib.hid hq; have HDR := Lib.hid hr; have HFQ := Lib.hid fq; have HFR := Lib.hid fr; obtain ⟨A3, c3, hv, -, -, -⟩ := hq; rw [HLQ.out] at hv; subst hv; obtain ⟨A4, c4, hv, -, -, -⟩ := hr; rw [HLR.out] at hv; subst hv; have HB2 := Lib.hid hbz; have a00 := fun o => keep_cell (hbz.alloc hbz.size o) c00; have a01 := fun o => keep_cell (hbz.alloc hbz.size o) c01; have a10 := fun o => keep_cell (hbz.alloc hbz.size o) c10; have a11 := fun o => keep_cell (hbz.alloc hbz.size o) c11; have hx := fun o => heap_below HH2.out (hbz.alloc hbz.size o); have a20 := fun o => cell_of_heap (hx o) 0; have a21 := fun o => cell_of_heap (hx o) 1; have a22 := fun o => cell_of_heap (hx o) 2; have a23 := fun o => cell_of_heap (hx o) 3; have f20 := fun o => free_of_heap (hx o) 0; have f21 := fun o => free_of_heap (hx o) 1; have f22 := fun o => free_of_heap (hx o) 2; have f23 := fun o => free_of_heap (hx o) 3; simp at a20 a21 a22 a23; clear hbz fq fr c00 c01 c10 c11 hx)
      obtain ⟨F, hF, r0, r1, r2, r3, hd0, hd1, hbf⟩ := pr_set false (decide (0 < LR)) (a20 _) (a21 _) (a22 _) (a23 _) (HDQ.out.below ((Below.refl _ _).alloc (Nat.le_refl _) (.cells #[.slice A3 LQ c3, .slice A4 LR c4] 85))) (HDR.out.below ((Below.refl _ _).alloc (Nat.le_refl _) _)) (HFQ.out.mono (Nat.le_of_eq HSZ.out.symm)) (HFR.out.mono (Nat.le_of_eq HSZ.out.symm))
      rw [hF]
      refine bodyPost_ret (v := .agg #[.slice A3 LQ c3, .bool false, .slice A4 LR c4, .bool (decide (0 < LR))]) (by simp [results, Tryz.results29, go_sem, r0, r1, r2, r3]) rfl ?_
      have e1 := HS1.out
      have e2 := HS2.out
      simp only [bne_self_eq_false, Bool.false_and, Bool.true_and, show (true != false) = true from rfl, show (false != true) = true from rfl] at e1 e2
      exact ⟨_, rfl, ⟨_, _, _, _, rfl, ⟨_, by rw [HT1.out, ← e1], by rw [Int.natAbs_tdiv]; exact hd0⟩, ⟨_, by rw [HT2.out, ← e2], by rw [Int.natAbs_tmod]; exact hd1⟩⟩, hbf _ _ (by omega) (below_then' HBEL.out (HB2.out.alloc HB2.out.size _))⟩
end Go.Proofs.YtbjgpbdkofadiaaGreatDoor
