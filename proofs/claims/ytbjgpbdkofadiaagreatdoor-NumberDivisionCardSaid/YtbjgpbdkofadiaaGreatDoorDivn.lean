/- The law NumberDivision. -/
import Derived.Test.YtbjgpbdkofadiaaGreatDoorLawB
import Derived.Test.YtbjgpbdkofadiaaGreatDoorLawC
namespace Go.Proofs.YtbjgpbdkofadiaaGreatDoor
set_option linter.unusedVariables false
set_option linter.unusedSimpArgs false
open Go.RowKit Go.Shelf Go.Proofs

/-- Of a floored and a cut division by a number other than 0. -/
theorem div_facts {x y : Int} (hy : y ≠ 0) :
    x.tdiv y * y + x.tmod y = x ∧ (x.tdiv y * y).natAbs ≤ x.natAbs ∧ (x.tmod y).natAbs < y.natAbs ∧ (x.fmod y).natAbs < y.natAbs
      ∧ (x.tmod y = 0 ∨ sgn (x.tmod y) = sgn x) ∧ (x.fmod y = 0 ∨ sgn (x.fmod y) = sgn y)
      ∧ ((x.tmod y = 0 ∨ sgn (x.tmod y) = sgn y) → x.fdiv y = x.tdiv y ∧ x.fmod y = x.tmod y)
      ∧ (¬ (x.tmod y = 0 ∨ sgn (x.tmod y) = sgn y) → x.fdiv y = x.tdiv y + -1 ∧ x.fmod y = x.tmod y + y) := by
  have h1 : x.tdiv y * y + x.tmod y = x := by have := Int.tmod_add_mul_tdiv x y; rw [Int.mul_comm]; omega
  have h2 : (x.tdiv y * y).natAbs ≤ x.natAbs := by
    rw [Int.natAbs_mul, Int.natAbs_tdiv]; exact Nat.div_mul_le_self _ _
  have h3 : (x.tmod y).natAbs < y.natAbs := by rw [Int.natAbs_tmod]; exact Nat.mod_lt _ (by omega)
  have h4 : (x.fmod y).natAbs < y.natAbs := by
    rcases Int.lt_or_gt_of_ne hy with h | h
    · have k1 := fmod_neg_rng x h; omega
    · have k1 := Int.fmod_nonneg_of_pos x h; have k2 := Int.fmod_lt_of_pos x h; omega
  have h5 : x.fmod y = 0 ∨ sgn (x.fmod y) = sgn y := by
    rcases Int.lt_or_gt_of_ne hy with h | h
    · have k1 := (fmod_neg_rng x h).1
      by_cases e : x.fmod y = 0
      · exact .inl e
      · exact .inr (by rw [sg_neg (by omega), sg_neg h])
    · have k1 := Int.fmod_nonneg_of_pos x h
      by_cases e : x.fmod y = 0
      · exact .inl e
      · exact .inr (by rw [sg_pos (by omega), sg_pos h])
  have h6 : x.tmod y = 0 ∨ sgn (x.tmod y) = sgn x := by
    rcases Int.lt_trichotomy x 0 with h | h | h
    · have k := tmod_np y (Int.le_of_lt h)
      by_cases e : x.tmod y = 0
      · exact .inl e
      · exact .inr (by rw [sg_neg (by omega), sg_neg h])
    · subst h; exact .inl (by simp)
    · have k := Int.tmod_nonneg y (Int.le_of_lt h)
      by_cases e : x.tmod y = 0
      · exact .inl e
      · exact .inr (by rw [sg_pos (by omega), sg_pos h])
  have hf : x.fdiv y * y + x.fmod y = x := by have := Int.fmod_add_mul_fdiv x y; rw [Int.mul_comm]; omega
  -- the difference of the rests is a multiple of the divisor, less than twice it
  have hd : (x.tdiv y - x.fdiv y) * y = x.fmod y - x.tmod y := by rw [Int.sub_mul]; omega
  have hs3 : ∀ z : Int, sgn z = -1 ∧ z < 0 ∨ sgn z = 0 ∧ z = 0 ∨ sgn z = 1 ∧ 0 < z := fun z => by
    rcases Int.lt_trichotomy z 0 with h | h | h
    · exact .inl ⟨sg_neg h, h⟩
    · exact .inr (.inl ⟨by rw [h]; exact sg_zero, h⟩)
    · exact .inr (.inr ⟨sg_pos h, h⟩)
  have hk : ∀ k : Int, k * y = x.fmod y - x.tmod y → k = 0 ∨ k = 1 ∨ k = -1 := fun k e => by
    have e1 : k.natAbs * y.natAbs < 2 * y.natAbs := by
      rw [← Int.natAbs_mul, e]; omega
    have e2 : k.natAbs < 2 := Nat.lt_of_mul_lt_mul_right e1
    omega
  refine ⟨h1, h2, h3, h4, h6, h5, fun h => ?_, fun h => ?_⟩
  · have e : x.tdiv y - x.fdiv y = 0 := by
      rcases hk _ hd with e | e | e
      · exact e
      · rw [e] at hd; rcases hs3 (x.tmod y) with q | q | q <;> rcases hs3 (x.fmod y) with p | p | p <;> rcases hs3 y with t | t | t <;> omega
      · rw [e] at hd; rcases hs3 (x.tmod y) with q | q | q <;> rcases hs3 (x.fmod y) with p | p | p <;> rcases hs3 y with t | t | t <;> omega
    rw [e] at hd
    omega
  · have e : x.tdiv y - x.fdiv y = 1 := by
      rcases hk _ hd with e | e | e
      · rw [e] at hd; rcases hs3 (x.tmod y) with q | q | q <;> rcases hs3 (x.fmod y) with p | p | p <;> rcases hs3 y with t | t | t <;> omega
      · exact e
      · rw [e] at hd; rcases hs3 (x.tmod y) with q | q | q <;> rcases hs3 (x.fmod y) with p | p | p <;> rcases hs3 y with t | t | t <;> omega
    rw [e] at hd
    omega

set_option maxRecDepth 100000 in
set_option maxHeartbeats 1000000 in
theorem numberdivision_bad (hsan : San) (a b : ByteArray) (w : World) (ht : Tabs w) (h : ¬ ∃ x y z, NumL a.data.toList x ∧ NumL b.data.toList y ∧ NumL (ByteArray.mk #[48]).data.toList z) :
    Calls Tryz.prog 14 #[.string a, .string b] w fun e w' => e = .returned (.bool true) ∧ Below w.heap.size w w' := by
  have HT := Lib.hid ht
  have HN := Lib.hid h
  have HB : Hid (Below w.heap.size w w) := Below.refl _ _
  have HS : Hid (∀ w : World, Tabs w → Calls Tryz.prog 18 #[] w fun e w' => e = .returned (.bool true) ∧ Below w.heap.size w w') := hsan
  clear ht h hsan
  go_enter Tryz.func14, Tryz.ntmps14
  go_wp2_with (first
  | (go_at_call 40; (with_reducible refine (integers_bad a b ⟨#[48]⟩ _ HN.out).mono ?_); rintro e W ⟨rfl, hbz⟩; have HB := Lib.hid (below_then' HB.out hbz); clear hbz)
  | (go_at_call 18; (with_reducible refine (HS.out _ (HT.out.below HB.out)).mono ?_); rintro e W ⟨rfl, hbz⟩; have HB := Lib.hid (below_then' HB.out hbz); clear hbz))
  go_ret
  exact ⟨rfl, HB.out⟩

set_option maxRecDepth 100000 in
set_option maxHeartbeats 8000000 in
theorem division_zero (hsan : San) (a b : ByteArray) (x y : Int) (w : World) (ht : Tabs w) (ha : NumL a.data.toList x) (hb : NumL b.data.toList y) (hy : y = 0) :
    Calls Tryz.prog 14 #[.string a, .string b] w fun e w' => e = .returned (.bool true) ∧ Below w.heap.size w w' := by
  have HT := Lib.hid ht
  have HA := Lib.hid ha
  have HBB := Lib.hid hb
  have HB : Hid (Below w.heap.size w w) := Below.refl _ _
  have HS : Hid (∀ w : World, Tabs w → Calls Tryz.prog 18 #[] w fun e w' => e = .returned (.bool true) ∧ Below w.heap.size w w') := hsan
  have hz := num_is_zero hb
  rw [decide_eq_true hy] at hz
  clear ht ha hb hsan hy
  go_enter Tryz.func14, Tryz.ntmps14
  go_wp2_with (first
  | (go_at_call 40; (with_reducible refine (integers_ok a b ⟨#[48]⟩ x y 0 _ HA.out HBB.out num_zero).mono ?_); rintro e W ⟨rfl, hbz⟩; have HB := Lib.hid (below_then' HB.out hbz); clear hbz)
  | (go_at_call 18; (with_reducible refine (HS.out _ (HT.out.below HB.out)).mono ?_); rintro e W ⟨rfl, hbz⟩; have HB := Lib.hid (below_then' HB.out hbz); clear hbz))
  go_ret
  exact ⟨rfl, HB.out⟩

set_option maxRecDepth 100000 in
set_option maxHeartbeats 8000000 in
theorem division_big (hsan : San) (a b : ByteArray) (x y : Int) (w : World) (ht : Tabs w) (ha : NumL a.data.toList x) (hb : NumL b.data.toList y) (hy : y ≠ 0) (hf : ¬ (x.fdiv y).natAbs < 10 ^ 200) :
    Calls Tryz.prog 14 #[.string a, .string b] w fun e w' => e = .returned (.bool true) ∧ Below w.heap.size w w' := by
  have HT := Lib.hid ht
  have HA := Lib.hid ha
  have HBB := Lib.hid hb
  have HB : Hid (Below w.heap.size w w) := Below.refl _ _
  have HS : Hid (∀ w : World, Tabs w → Calls Tryz.prog 18 #[] w fun e w' => e = .returned (.bool true) ∧ Below w.heap.size w w') := hsan
  have hz := num_is_zero hb
  rw [decide_eq_false hy] at hz
  have HY := Lib.hid hy
  have HF := Lib.hid hf
  obtain ⟨sq, hsq⟩ : ∃ s, txt (x.tdiv y) = s := ⟨_, rfl⟩
  have Hq : Hid (txt (x.tdiv y) = sq ∧ ern (x.tdiv y) = 0) := ⟨hsq, ern_fit (tdiv_fit ha.2)⟩
  have HNq : Hid (NumL sq.data.toList (x.tdiv y)) := num_of Hq.out.1 Hq.out.2 rfl
  clear hsq
  obtain ⟨sr, hsr⟩ : ∃ s, txt (x.tmod y) = s := ⟨_, rfl⟩
  have Hr : Hid (txt (x.tmod y) = sr ∧ ern (x.tmod y) = 0) := ⟨hsr, ern_fit (tmod_fit ha.2)⟩
  have HNr : Hid (NumL sr.data.toList (x.tmod y)) := num_of Hr.out.1 Hr.out.2 rfl
  clear hsr
  clear ht ha hb hsan hy hf
  go_enter Tryz.func14, Tryz.ntmps14
  go_wp2_with (first
  | (go_at_call 40; (with_reducible refine (integers_ok a b ⟨#[48]⟩ x y 0 _ HA.out HBB.out num_zero).mono ?_); rintro e W ⟨rfl, hbz⟩; have HB := Lib.hid (below_then' HB.out hbz); clear hbz)
  | (go_at_call 27; (with_reducible refine (law_quo a b x y sq sr _ HA.out HBB.out HY.out Hq.out.1 Hr.out.1 (HT.out.below HB.out)).mono ?_); rintro e W ⟨rfl, hbz⟩; have HB := Lib.hid (below_then' HB.out hbz); clear hbz)
  | (go_at_call 28; (with_reducible refine (law_floor_big a b x y _ HA.out HBB.out HY.out HF.out (HT.out.below HB.out)).mono ?_); rintro e W ⟨rfl, hbz⟩; have HB := Lib.hid (below_then' HB.out hbz); clear hbz)
  | (go_at_call 18; (with_reducible refine (HS.out _ (HT.out.below HB.out)).mono ?_); rintro e W ⟨rfl, hbz⟩; have HB := Lib.hid (below_then' HB.out hbz); clear hbz))
  go_ret
  exact ⟨rfl, HB.out⟩

set_option maxRecDepth 100000 in
set_option maxHeartbeats 8000000 in
theorem division_same (hsan : San) (a b : ByteArray) (x y : Int) (w : World) (ht : Tabs w) (ha : NumL a.data.toList x) (hb : NumL b.data.toList y) (hy : y ≠ 0) (hf : (x.fdiv y).natAbs < 10 ^ 200) (hc : x.tmod y = 0 ∨ sgn (x.tmod y) = sgn y) :
    Calls Tryz.prog 14 #[.string a, .string b] w fun e w' => e = .returned (.bool true) ∧ Below w.heap.size w w' := by
  have HT := Lib.hid ht
  have HA := Lib.hid ha
  have HBB := Lib.hid hb
  have HB : Hid (Below w.heap.size w w) := Below.refl _ _
  have HS : Hid (∀ w : World, Tabs w → Calls Tryz.prog 18 #[] w fun e w' => e = .returned (.bool true) ∧ Below w.heap.size w w') := hsan
  obtain ⟨f1, f2, f3, f4, f5, f6, f7, f8⟩ := div_facts (x := x) hy
  have hz := num_is_zero hb
  rw [decide_eq_false hy] at hz
  have HY := Lib.hid hy
  have HF := Lib.hid hf
  have hfm := fmod_fit (x := x) hy hb.2
  obtain ⟨sq, hsq⟩ : ∃ s, txt (x.tdiv y) = s := ⟨_, rfl⟩
  have Hq : Hid (txt (x.tdiv y) = sq ∧ ern (x.tdiv y) = 0) := ⟨hsq, ern_fit (tdiv_fit ha.2)⟩
  have HNq : Hid (NumL sq.data.toList (x.tdiv y)) := num_of Hq.out.1 Hq.out.2 rfl
  clear hsq
  obtain ⟨sr, hsr⟩ : ∃ s, txt (x.tmod y) = s := ⟨_, rfl⟩
  have Hr : Hid (txt (x.tmod y) = sr ∧ ern (x.tmod y) = 0) := ⟨hsr, ern_fit (tmod_fit ha.2)⟩
  have HNr : Hid (NumL sr.data.toList (x.tmod y)) := num_of Hr.out.1 Hr.out.2 rfl
  clear hsr
  obtain ⟨g1, g2⟩ := f7 hc
  have Hk : Hid (txt (x.fdiv y) = sq) := by show _ = _; rw [g1]; exact Hq.out.1
  have Hm : Hid (txt (x.fmod y) = sr) := by show _ = _; rw [g2]; exact Hr.out.1
  have HNm : Hid (NumL sr.data.toList (x.fmod y)) := by show NumL _ _; rw [g2]; exact HNr.out
  obtain ⟨sp, hsp⟩ : ∃ s, txt (x.tdiv y * y) = s := ⟨_, rfl⟩
  have Hp : Hid (txt (x.tdiv y * y) = sp ∧ ern (x.tdiv y * y) = 0) := ⟨hsp, ern_fit (Nat.lt_of_le_of_lt f2 ha.2)⟩
  have HNp : Hid (NumL sp.data.toList (x.tdiv y * y)) := num_of Hp.out.1 Hp.out.2 rfl
  clear hsp
  have Hs : Hid (txt (x.tdiv y * y + x.tmod y) = a ∧ ern (x.tdiv y * y + x.tmod y) = 0) := by show _ ∧ _; rw [f1]; exact num_txt ha
  obtain ⟨sz, hsz⟩ : ∃ s, txt ((y.natAbs : Int)) = s := ⟨_, rfl⟩
  have Hz : Hid (txt ((y.natAbs : Int)) = sz ∧ ern ((y.natAbs : Int)) = 0) := ⟨hsz, ern_fit (by rw [Int.natAbs_natCast]; exact hb.2)⟩
  have HNz : Hid (NumL sz.data.toList ((y.natAbs : Int))) := num_of Hz.out.1 Hz.out.2 rfl
  clear hsz
  obtain ⟨so, hso⟩ : ∃ s, txt (((x.tmod y).natAbs : Int)) = s := ⟨_, rfl⟩
  have Ho : Hid (txt (((x.tmod y).natAbs : Int)) = so ∧ ern (((x.tmod y).natAbs : Int)) = 0) := ⟨hso, ern_fit (by rw [Int.natAbs_natCast]; exact tmod_fit ha.2)⟩
  have HNo : Hid (NumL so.data.toList (((x.tmod y).natAbs : Int))) := num_of Ho.out.1 Ho.out.2 rfl
  clear hso
  obtain ⟨st, hst⟩ : ∃ s, txt (((x.fmod y).natAbs : Int)) = s := ⟨_, rfl⟩
  have Ht : Hid (txt (((x.fmod y).natAbs : Int)) = st ∧ ern (((x.fmod y).natAbs : Int)) = 0) := ⟨hst, ern_fit (by rw [Int.natAbs_natCast]; exact hfm)⟩
  have HNt : Hid (NumL st.data.toList (((x.fmod y).natAbs : Int))) := num_of Ht.out.1 Ht.out.2 rfl
  clear hst
  have HC1 : Hid (sgn (((x.tmod y).natAbs : Int) + -(y.natAbs : Int)) = -1) := sg_neg (by omega)
  have HC2 : Hid (sgn (((x.fmod y).natAbs : Int) + -(y.natAbs : Int)) = -1) := sg_neg (by omega)
  obtain ⟨ga, hga⟩ : ∃ g, sgn x = g := ⟨_, rfl⟩
  obtain ⟨gb, hgb⟩ : ∃ g, sgn y = g := ⟨_, rfl⟩
  have HGA := Lib.hid hga
  have HGB := Lib.hid hgb
  obtain ⟨gr, hgr⟩ : ∃ g, sgn (x.tmod y) = g := ⟨_, rfl⟩
  have HSR := Lib.hid hgr
  have HSM : Hid (sgn (x.fmod y) = gr) := by show _ = _; rw [g2]; exact hgr
  have Ht' : Hid (txt ((x.tmod y).natAbs : Int) = st) := by show _ = _; rw [← g2]; exact Ht.out.1
  obtain rfl : so = st := Ho.out.1.symm.trans Ht'.out
  have hcs : gr = 0 ∨ (gr == 0) = false ∧ gr = gb ∧ gr = ga := by
    by_cases e : x.tmod y = 0
    · exact .inl (by rw [← hgr, e]; exact sg_zero)
    · refine .inr ⟨by rw [← hgr, beq_eq_false_iff_ne]; exact fun h => e (sg_eq.1 h), ?_, ?_⟩
      · rw [← hgr, ← hgb]; exact hc.resolve_left e
      · rw [← hgr, ← hga]; exact f5.resolve_left e
  clear hga hgb hgr f5 f6 Ht'
  clear ht ha hb hsan hy hf hfm f1 f2 f3 f4 f7 f8 hc g1 g2
  rcases hcs with t1 | ⟨t1, t2, t3⟩
  · subst t1
    go_enter Tryz.func14, Tryz.ntmps14
    go_wp2_with (first
    | (go_at_call 40; (with_reducible refine (integers_ok a b ⟨#[48]⟩ x y 0 _ HA.out HBB.out num_zero).mono ?_); rintro e W ⟨rfl, hbz⟩; have HB := Lib.hid (below_then' HB.out hbz); clear hbz)
    | (go_at_call 27; (with_reducible refine (law_quo a b x y sq sr _ HA.out HBB.out HY.out Hq.out.1 Hr.out.1 (HT.out.below HB.out)).mono ?_); rintro e W ⟨rfl, hbz⟩; have HB := Lib.hid (below_then' HB.out hbz); clear hbz)
    | (go_at_call 28; (with_reducible refine (law_floor a b x y sq sr _ HA.out HBB.out HY.out HF.out Hk.out Hm.out (HT.out.below HB.out)).mono ?_); rintro e W ⟨rfl, hbz⟩; have HB := Lib.hid (below_then' HB.out hbz); clear hbz)
    | (go_at_call 19; (with_reducible refine (law_mul sq b (x.tdiv y) y sp _ _ HNq.out HBB.out Hp.out.1 Hp.out.2 (HT.out.below HB.out)).mono ?_); rintro e W ⟨rfl, hbz⟩; have HB := Lib.hid (below_then' HB.out hbz); clear hbz)
    | (go_at_call 42; (with_reducible refine (law_add sp sr (x.tdiv y * y) (x.tmod y) a _ _ HNp.out HNr.out Hs.out.1 Hs.out.2 (HT.out.below HB.out)).mono ?_); rintro e W ⟨rfl, hbz⟩; have HB := Lib.hid (below_then' HB.out hbz); clear hbz)
    | (go_at_call 49; (with_reducible refine (law_abs b y sz _ _ HBB.out Hz.out.1 Hz.out.2 (HT.out.below HB.out)).mono ?_); rintro e W ⟨rfl, hbz⟩; have HB := Lib.hid (below_then' HB.out hbz); clear hbz)
    | (go_at_call 49; (with_reducible refine (law_abs sr (x.tmod y) so _ _ HNr.out Ho.out.1 Ho.out.2 (HT.out.below HB.out)).mono ?_); rintro e W ⟨rfl, hbz⟩; have HB := Lib.hid (below_then' HB.out hbz); clear hbz)
    | (go_at_call 45; (with_reducible refine (law_cmp_at so sz _ _ (-1) _ HNo.out HNz.out HC1.out (HT.out.below HB.out)).mono ?_); rintro e W ⟨rfl, hbz⟩; have HB := Lib.hid (below_then' HB.out hbz); clear hbz)
    | (go_at_call 48; (with_reducible refine (law_sign_at a x ga _ HA.out HGA.out (HT.out.below HB.out)).mono ?_); rintro e W ⟨rfl, hbz⟩; have HB := Lib.hid (below_then' HB.out hbz); clear hbz)
    | (go_at_call 48; (with_reducible refine (law_sign_at b y gb _ HBB.out HGB.out (HT.out.below HB.out)).mono ?_); rintro e W ⟨rfl, hbz⟩; have HB := Lib.hid (below_then' HB.out hbz); clear hbz)
    | (go_at_call 48; (with_reducible refine (law_sign_at sr (x.tmod y) 0 _ HNr.out HSR.out (HT.out.below HB.out)).mono ?_); rintro e W ⟨rfl, hbz⟩; have HB := Lib.hid (below_then' HB.out hbz); clear hbz)
    | (go_at_call 18; (with_reducible refine (HS.out _ (HT.out.below HB.out)).mono ?_); rintro e W ⟨rfl, hbz⟩; have HB := Lib.hid (below_then' HB.out hbz); clear hbz))
    all_goals
      go_ret
      exact ⟨rfl, HB.out⟩
  · subst t2
    subst t3
    go_enter Tryz.func14, Tryz.ntmps14
    go_wp2_with (first
    | (go_at_call 40; (with_reducible refine (integers_ok a b ⟨#[48]⟩ x y 0 _ HA.out HBB.out num_zero).mono ?_); rintro e W ⟨rfl, hbz⟩; have HB := Lib.hid (below_then' HB.out hbz); clear hbz)
    | (go_at_call 27; (with_reducible refine (law_quo a b x y sq sr _ HA.out HBB.out HY.out Hq.out.1 Hr.out.1 (HT.out.below HB.out)).mono ?_); rintro e W ⟨rfl, hbz⟩; have HB := Lib.hid (below_then' HB.out hbz); clear hbz)
    | (go_at_call 28; (with_reducible refine (law_floor a b x y sq sr _ HA.out HBB.out HY.out HF.out Hk.out Hm.out (HT.out.below HB.out)).mono ?_); rintro e W ⟨rfl, hbz⟩; have HB := Lib.hid (below_then' HB.out hbz); clear hbz)
    | (go_at_call 19; (with_reducible refine (law_mul sq b (x.tdiv y) y sp _ _ HNq.out HBB.out Hp.out.1 Hp.out.2 (HT.out.below HB.out)).mono ?_); rintro e W ⟨rfl, hbz⟩; have HB := Lib.hid (below_then' HB.out hbz); clear hbz)
    | (go_at_call 42; (with_reducible refine (law_add sp sr (x.tdiv y * y) (x.tmod y) a _ _ HNp.out HNr.out Hs.out.1 Hs.out.2 (HT.out.below HB.out)).mono ?_); rintro e W ⟨rfl, hbz⟩; have HB := Lib.hid (below_then' HB.out hbz); clear hbz)
    | (go_at_call 49; (with_reducible refine (law_abs b y sz _ _ HBB.out Hz.out.1 Hz.out.2 (HT.out.below HB.out)).mono ?_); rintro e W ⟨rfl, hbz⟩; have HB := Lib.hid (below_then' HB.out hbz); clear hbz)
    | (go_at_call 49; (with_reducible refine (law_abs sr (x.tmod y) so _ _ HNr.out Ho.out.1 Ho.out.2 (HT.out.below HB.out)).mono ?_); rintro e W ⟨rfl, hbz⟩; have HB := Lib.hid (below_then' HB.out hbz); clear hbz)
    | (go_at_call 45; (with_reducible refine (law_cmp_at so sz _ _ (-1) _ HNo.out HNz.out HC1.out (HT.out.below HB.out)).mono ?_); rintro e W ⟨rfl, hbz⟩; have HB := Lib.hid (below_then' HB.out hbz); clear hbz)
    | (go_at_call 48; (with_reducible refine (law_sign_at a x gr _ HA.out HGA.out (HT.out.below HB.out)).mono ?_); rintro e W ⟨rfl, hbz⟩; have HB := Lib.hid (below_then' HB.out hbz); clear hbz)
    | (go_at_call 48; (with_reducible refine (law_sign_at b y gr _ HBB.out HGB.out (HT.out.below HB.out)).mono ?_); rintro e W ⟨rfl, hbz⟩; have HB := Lib.hid (below_then' HB.out hbz); clear hbz)
    | (go_at_call 48; (with_reducible refine (law_sign_at sr (x.tmod y) gr _ HNr.out HSR.out (HT.out.below HB.out)).mono ?_); rintro e W ⟨rfl, hbz⟩; have HB := Lib.hid (below_then' HB.out hbz); clear hbz)
    | (go_at_call 18; (with_reducible refine (HS.out _ (HT.out.below HB.out)).mono ?_); rintro e W ⟨rfl, hbz⟩; have HB := Lib.hid (below_then' HB.out hbz); clear hbz))
    all_goals
      go_ret
      exact ⟨rfl, HB.out⟩

set_option maxRecDepth 100000 in
set_option maxHeartbeats 8000000 in
theorem division_other (hsan : San) (a b : ByteArray) (x y : Int) (w : World) (ht : Tabs w) (ha : NumL a.data.toList x) (hb : NumL b.data.toList y) (hy : y ≠ 0) (hf : (x.fdiv y).natAbs < 10 ^ 200) (hc : ¬ (x.tmod y = 0 ∨ sgn (x.tmod y) = sgn y)) :
    Calls Tryz.prog 14 #[.string a, .string b] w fun e w' => e = .returned (.bool true) ∧ Below w.heap.size w w' := by
  have HT := Lib.hid ht
  have HA := Lib.hid ha
  have HBB := Lib.hid hb
  have HB : Hid (Below w.heap.size w w) := Below.refl _ _
  have HS : Hid (∀ w : World, Tabs w → Calls Tryz.prog 18 #[] w fun e w' => e = .returned (.bool true) ∧ Below w.heap.size w w') := hsan
  obtain ⟨f1, f2, f3, f4, f5, f6, f7, f8⟩ := div_facts (x := x) hy
  have hz := num_is_zero hb
  rw [decide_eq_false hy] at hz
  have HY := Lib.hid hy
  have HF := Lib.hid hf
  have hfm := fmod_fit (x := x) hy hb.2
  obtain ⟨sq, hsq⟩ : ∃ s, txt (x.tdiv y) = s := ⟨_, rfl⟩
  have Hq : Hid (txt (x.tdiv y) = sq ∧ ern (x.tdiv y) = 0) := ⟨hsq, ern_fit (tdiv_fit ha.2)⟩
  have HNq : Hid (NumL sq.data.toList (x.tdiv y)) := num_of Hq.out.1 Hq.out.2 rfl
  clear hsq
  obtain ⟨sr, hsr⟩ : ∃ s, txt (x.tmod y) = s := ⟨_, rfl⟩
  have Hr : Hid (txt (x.tmod y) = sr ∧ ern (x.tmod y) = 0) := ⟨hsr, ern_fit (tmod_fit ha.2)⟩
  have HNr : Hid (NumL sr.data.toList (x.tmod y)) := num_of Hr.out.1 Hr.out.2 rfl
  clear hsr
  obtain ⟨sk, hsk⟩ : ∃ s, txt (x.fdiv y) = s := ⟨_, rfl⟩
  have Hk : Hid (txt (x.fdiv y) = sk ∧ ern (x.fdiv y) = 0) := ⟨hsk, ern_fit hf⟩
  have HNk : Hid (NumL sk.data.toList (x.fdiv y)) := num_of Hk.out.1 Hk.out.2 rfl
  clear hsk
  obtain ⟨sm, hsm⟩ : ∃ s, txt (x.fmod y) = s := ⟨_, rfl⟩
  have Hm : Hid (txt (x.fmod y) = sm ∧ ern (x.fmod y) = 0) := ⟨hsm, ern_fit hfm⟩
  have HNm : Hid (NumL sm.data.toList (x.fmod y)) := num_of Hm.out.1 Hm.out.2 rfl
  clear hsm
  obtain ⟨sp, hsp⟩ : ∃ s, txt (x.tdiv y * y) = s := ⟨_, rfl⟩
  have Hp : Hid (txt (x.tdiv y * y) = sp ∧ ern (x.tdiv y * y) = 0) := ⟨hsp, ern_fit (Nat.lt_of_le_of_lt f2 ha.2)⟩
  have HNp : Hid (NumL sp.data.toList (x.tdiv y * y)) := num_of Hp.out.1 Hp.out.2 rfl
  clear hsp
  have Hs : Hid (txt (x.tdiv y * y + x.tmod y) = a ∧ ern (x.tdiv y * y + x.tmod y) = 0) := by show _ ∧ _; rw [f1]; exact num_txt ha
  obtain ⟨sz, hsz⟩ : ∃ s, txt ((y.natAbs : Int)) = s := ⟨_, rfl⟩
  have Hz : Hid (txt ((y.natAbs : Int)) = sz ∧ ern ((y.natAbs : Int)) = 0) := ⟨hsz, ern_fit (by rw [Int.natAbs_natCast]; exact hb.2)⟩
  have HNz : Hid (NumL sz.data.toList ((y.natAbs : Int))) := num_of Hz.out.1 Hz.out.2 rfl
  clear hsz
  obtain ⟨so, hso⟩ : ∃ s, txt (((x.tmod y).natAbs : Int)) = s := ⟨_, rfl⟩
  have Ho : Hid (txt (((x.tmod y).natAbs : Int)) = so ∧ ern (((x.tmod y).natAbs : Int)) = 0) := ⟨hso, ern_fit (by rw [Int.natAbs_natCast]; exact tmod_fit ha.2)⟩
  have HNo : Hid (NumL so.data.toList (((x.tmod y).natAbs : Int))) := num_of Ho.out.1 Ho.out.2 rfl
  clear hso
  obtain ⟨st, hst⟩ : ∃ s, txt (((x.fmod y).natAbs : Int)) = s := ⟨_, rfl⟩
  have Ht : Hid (txt (((x.fmod y).natAbs : Int)) = st ∧ ern (((x.fmod y).natAbs : Int)) = 0) := ⟨hst, ern_fit (by rw [Int.natAbs_natCast]; exact hfm)⟩
  have HNt : Hid (NumL st.data.toList (((x.fmod y).natAbs : Int))) := num_of Ht.out.1 Ht.out.2 rfl
  clear hst
  have HC1 : Hid (sgn (((x.tmod y).natAbs : Int) + -(y.natAbs : Int)) = -1) := sg_neg (by omega)
  have HC2 : Hid (sgn (((x.fmod y).natAbs : Int) + -(y.natAbs : Int)) = -1) := sg_neg (by omega)
  obtain ⟨ga, hga⟩ : ∃ g, sgn x = g := ⟨_, rfl⟩
  obtain ⟨gb, hgb⟩ : ∃ g, sgn y = g := ⟨_, rfl⟩
  have HGA := Lib.hid hga
  have HGB := Lib.hid hgb
  obtain ⟨g1, g2⟩ := f8 hc
  have hr0 : ¬ x.tmod y = 0 := fun e => hc (.inl e)
  have hrx := f5.resolve_left hr0
  have hm0 : ¬ x.fmod y = 0 := by rw [g2]; omega
  have hmy := f6.resolve_left hm0
  have HSR : Hid (sgn (x.tmod y) = ga) := by show _ = _; rw [hrx, hga]
  have HSM : Hid (sgn (x.fmod y) = gb) := by show _ = _; rw [hmy, hgb]
  have t1 : (ga == 0) = false := by rw [← hga, ← hrx, beq_eq_false_iff_ne]; intro e; exact hr0 (sg_eq.1 e)
  have t1' : (ga != 0) = true := by rw [bne, t1]; rfl
  have t2 : (ga == gb) = false := by rw [← hga, ← hrx, ← hgb, beq_eq_false_iff_ne]; intro e; exact hc (.inr e)
  have t3 : (gb == 0) = false := by rw [← hgb, beq_eq_false_iff_ne]; intro e; exact hy (sg_eq.1 e)
  have t3' : (gb != 0) = true := by rw [bne, t3]; rfl
  have Hl : Hid (txt (x.tdiv y + -1) = sk ∧ ern (x.tdiv y + -1) = 0) := by show _ ∧ _; rw [← g1]; exact Hk.out
  have Hu : Hid (txt (x.tmod y + y) = sm ∧ ern (x.tmod y + y) = 0) := by show _ ∧ _; rw [← g2]; exact Hm.out
  clear hga hgb hrx hmy hr0 hm0 f5 f6 g1 g2
  clear ht ha hb hsan hy hf hfm f1 f2 f3 f4 f7 f8 hc
  go_enter Tryz.func14, Tryz.ntmps14
  go_wp2_with (first
  | (go_at_call 40; (with_reducible refine (integers_ok a b ⟨#[48]⟩ x y 0 _ HA.out HBB.out num_zero).mono ?_); rintro e W ⟨rfl, hbz⟩; have HB := Lib.hid (below_then' HB.out hbz); clear hbz)
  | (go_at_call 27; (with_reducible refine (law_quo a b x y sq sr _ HA.out HBB.out HY.out Hq.out.1 Hr.out.1 (HT.out.below HB.out)).mono ?_); rintro e W ⟨rfl, hbz⟩; have HB := Lib.hid (below_then' HB.out hbz); clear hbz)
  | (go_at_call 28; (with_reducible refine (law_floor a b x y sk sm _ HA.out HBB.out HY.out HF.out Hk.out.1 Hm.out.1 (HT.out.below HB.out)).mono ?_); rintro e W ⟨rfl, hbz⟩; have HB := Lib.hid (below_then' HB.out hbz); clear hbz)
  | (go_at_call 19; (with_reducible refine (law_mul sq b (x.tdiv y) y sp _ _ HNq.out HBB.out Hp.out.1 Hp.out.2 (HT.out.below HB.out)).mono ?_); rintro e W ⟨rfl, hbz⟩; have HB := Lib.hid (below_then' HB.out hbz); clear hbz)
  | (go_at_call 42; (with_reducible refine (law_add sp sr (x.tdiv y * y) (x.tmod y) a _ _ HNp.out HNr.out Hs.out.1 Hs.out.2 (HT.out.below HB.out)).mono ?_); rintro e W ⟨rfl, hbz⟩; have HB := Lib.hid (below_then' HB.out hbz); clear hbz)
  | (go_at_call 49; (with_reducible refine (law_abs b y sz _ _ HBB.out Hz.out.1 Hz.out.2 (HT.out.below HB.out)).mono ?_); rintro e W ⟨rfl, hbz⟩; have HB := Lib.hid (below_then' HB.out hbz); clear hbz)
  | (go_at_call 49; (with_reducible refine (law_abs sr (x.tmod y) so _ _ HNr.out Ho.out.1 Ho.out.2 (HT.out.below HB.out)).mono ?_); rintro e W ⟨rfl, hbz⟩; have HB := Lib.hid (below_then' HB.out hbz); clear hbz)
  | (go_at_call 49; (with_reducible refine (law_abs sm (x.fmod y) st _ _ HNm.out Ht.out.1 Ht.out.2 (HT.out.below HB.out)).mono ?_); rintro e W ⟨rfl, hbz⟩; have HB := Lib.hid (below_then' HB.out hbz); clear hbz)
  | (go_at_call 45; (with_reducible refine (law_cmp_at so sz _ _ (-1) _ HNo.out HNz.out HC1.out (HT.out.below HB.out)).mono ?_); rintro e W ⟨rfl, hbz⟩; have HB := Lib.hid (below_then' HB.out hbz); clear hbz)
  | (go_at_call 45; (with_reducible refine (law_cmp_at st sz _ _ (-1) _ HNt.out HNz.out HC2.out (HT.out.below HB.out)).mono ?_); rintro e W ⟨rfl, hbz⟩; have HB := Lib.hid (below_then' HB.out hbz); clear hbz)
  | (go_at_call 48; (with_reducible refine (law_sign_at a x ga _ HA.out HGA.out (HT.out.below HB.out)).mono ?_); rintro e W ⟨rfl, hbz⟩; have HB := Lib.hid (below_then' HB.out hbz); clear hbz)
  | (go_at_call 48; (with_reducible refine (law_sign_at b y gb _ HBB.out HGB.out (HT.out.below HB.out)).mono ?_); rintro e W ⟨rfl, hbz⟩; have HB := Lib.hid (below_then' HB.out hbz); clear hbz)
  | (go_at_call 48; (with_reducible refine (law_sign_at sr (x.tmod y) ga _ HNr.out HSR.out (HT.out.below HB.out)).mono ?_); rintro e W ⟨rfl, hbz⟩; have HB := Lib.hid (below_then' HB.out hbz); clear hbz)
  | (go_at_call 48; (with_reducible refine (law_sign_at sm (x.fmod y) gb _ HNm.out HSM.out (HT.out.below HB.out)).mono ?_); rintro e W ⟨rfl, hbz⟩; have HB := Lib.hid (below_then' HB.out hbz); clear hbz)
  | (go_at_call 44; (with_reducible refine (law_sub sq ⟨#[49]⟩ (x.tdiv y) 1 sk _ _ HNq.out num_one Hl.out.1 Hl.out.2 (HT.out.below HB.out)).mono ?_); rintro e W ⟨rfl, hbz⟩; have HB := Lib.hid (below_then' HB.out hbz); clear hbz)
  | (go_at_call 42; (with_reducible refine (law_add sr b (x.tmod y) y sm _ _ HNr.out HBB.out Hu.out.1 Hu.out.2 (HT.out.below HB.out)).mono ?_); rintro e W ⟨rfl, hbz⟩; have HB := Lib.hid (below_then' HB.out hbz); clear hbz)
  | (go_at_call 18; (with_reducible refine (HS.out _ (HT.out.below HB.out)).mono ?_); rintro e W ⟨rfl, hbz⟩; have HB := Lib.hid (below_then' HB.out hbz); clear hbz))
  all_goals
    go_ret
    exact ⟨rfl, HB.out⟩

/-- The walk of NumberDivision. -/
theorem division_walk (hsan : San) (a b : ByteArray) (w : World) (ht : Tabs w) :
    Calls Tryz.prog 14 #[.string a, .string b] w fun e w' => e = .returned (.bool true) ∧ Below w.heap.size w w' := by
  by_cases h : ∃ x y, NumL a.data.toList x ∧ NumL b.data.toList y
  · obtain ⟨x, y, ha, hb⟩ := h
    by_cases hy : y = 0
    · exact division_zero hsan a b x y w ht ha hb hy
    · by_cases hf : (x.fdiv y).natAbs < 10 ^ 200
      · by_cases hc : x.tmod y = 0 ∨ sgn (x.tmod y) = sgn y
        · exact division_same hsan a b x y w ht ha hb hy hf hc
        · exact division_other hsan a b x y w ht ha hb hy hf hc
      · exact division_big hsan a b x y w ht ha hb hy hf
  · exact numberdivision_bad hsan a b w ht fun ⟨x, y, _, hx, hy, _⟩ => h ⟨x, y, hx, hy⟩

end Go.Proofs.YtbjgpbdkofadiaaGreatDoor
