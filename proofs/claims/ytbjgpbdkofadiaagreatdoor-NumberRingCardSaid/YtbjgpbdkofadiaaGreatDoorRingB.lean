/- Part B of: The law NumberRing. -/
import Derived.Test.YtbjgpbdkofadiaaGreatDoorInts
namespace Go.Proofs.YtbjgpbdkofadiaaGreatDoor
set_option linter.unusedVariables false
set_option linter.unusedSimpArgs false
open Go.RowKit Go.Shelf Go.Proofs

set_option maxRecDepth 100000 in
set_option maxHeartbeats 8000000 in
theorem ring_30 (hsan : San) (a b c : ByteArray) (x y z : Int) (w : World) (ht : Tabs w) (ha : NumL a.data.toList x) (hb : NumL b.data.toList y) (hc : NumL c.data.toList z) (q1 : ern (x + y) = 3) (q2 : ern (x * y) = 0) :
    Calls Tryz.prog 9 #[.string a, .string b, .string c] w fun e w' => e = .returned (.bool true) ∧ Below w.heap.size w w' := by
  have HT := Lib.hid ht
  have HS : Hid (∀ w : World, Tabs w → Calls Tryz.prog 18 #[] w fun e w' => e = .returned (.bool true) ∧ Below w.heap.size w w') := hsan
  have HA := Lib.hid ha
  have HBB := Lib.hid hb
  have HC := Lib.hid hc
  have hbx := num_is_zero ha
  have hby := num_is_zero hb
  obtain ⟨bx, hbx'⟩ : ∃ bx, decide (x = 0) = bx := ⟨_, rfl⟩
  obtain ⟨by_, hby'⟩ : ∃ bx, decide (y = 0) = bx := ⟨_, rfl⟩
  rw [hbx'] at hbx
  rw [hby'] at hby
  -- the answers, by name
  obtain ⟨s1, hs1⟩ : ∃ s, txt (x + y) = s := ⟨_, rfl⟩
  obtain ⟨e1, he1⟩ : ∃ e, ern (x + y) = e := ⟨_, rfl⟩
  obtain ⟨s2, hs2⟩ : ∃ s, txt (x * y) = s := ⟨_, rfl⟩
  obtain ⟨e2, he2⟩ : ∃ e, ern (x * y) = e := ⟨_, rfl⟩
  obtain ⟨s3, hs3⟩ : ∃ s, txt (y + z) = s := ⟨_, rfl⟩
  obtain ⟨e3, he3⟩ : ∃ e, ern (y + z) = e := ⟨_, rfl⟩
  obtain ⟨s4, hs4⟩ : ∃ s, txt (x + y + z) = s := ⟨_, rfl⟩
  obtain ⟨e4, he4⟩ : ∃ e, ern (x + y + z) = e := ⟨_, rfl⟩
  obtain ⟨s5, hs5⟩ : ∃ s, txt (y * z) = s := ⟨_, rfl⟩
  obtain ⟨e5, he5⟩ : ∃ e, ern (y * z) = e := ⟨_, rfl⟩
  obtain ⟨s6, hs6⟩ : ∃ s, txt (x * y * z) = s := ⟨_, rfl⟩
  obtain ⟨e6, he6⟩ : ∃ e, ern (x * y * z) = e := ⟨_, rfl⟩
  obtain ⟨s7, hs7⟩ : ∃ s, txt (x * z) = s := ⟨_, rfl⟩
  obtain ⟨e7, he7⟩ : ∃ e, ern (x * z) = e := ⟨_, rfl⟩
  obtain ⟨s8, hs8⟩ : ∃ s, txt (x * (y + z)) = s := ⟨_, rfl⟩
  obtain ⟨e8, he8⟩ : ∃ e, ern (x * (y + z)) = e := ⟨_, rfl⟩
  obtain ⟨s9, hs9⟩ : ∃ s, txt (x + -y) = s := ⟨_, rfl⟩
  obtain ⟨e9, he9⟩ : ∃ e, ern (x + -y) = e := ⟨_, rfl⟩
  obtain ⟨sn, hsn⟩ : ∃ s, txt (-y) = s := ⟨_, rfl⟩
  have hen : ern (-y) = 0 := if_pos (by rw [Int.natAbs_neg]; exact hb.2)
  have hs0 : txt (x + -x) = ⟨#[48]⟩ := by
    rw [show x + -x = 0 by omega]; exact (num_txt (s := ⟨#[48]⟩) num_zero).1
  have he0 : ern (x + -x) = 0 := by rw [show x + -x = 0 by omega]; exact if_pos (by decide)
  -- whether the product is 0
  have hz2 : e2 = 0 → (s2.toList == [48]) = (bx || by_) := fun h => by
    rw [num_is_zero (num_of hs2 he2 h), ← hbx', ← hby', Bool.eq_iff_iff]
    simp [Int.mul_eq_zero]
  obtain ⟨b2, hb2⟩ : ∃ b, (s2.toList == [48]) = b := ⟨_, rfl⟩
  have HZ2 : Hid (e2 = 0 → b2 = (bx || by_)) := fun h => by rw [← hb2]; exact hz2 h
  have H1 := Lib.hid (And.intro hs1 he1)
  have H2 := Lib.hid (And.intro hs2 he2)
  have H3 := Lib.hid (And.intro hs3 he3)
  have H4 := Lib.hid (And.intro hs4 he4)
  have H5 := Lib.hid (And.intro hs5 he5)
  have H6 := Lib.hid (And.intro hs6 he6)
  have H7 := Lib.hid (And.intro hs7 he7)
  have H8 := Lib.hid (And.intro hs8 he8)
  have H9 := Lib.hid (And.intro hs9 he9)
  have HNN := Lib.hid (And.intro hsn hen)
  have H0 := Lib.hid (And.intro hs0 he0)
  have O1 := Lib.hid (he1 ▸ ern_or (x + y))
  have O2 := Lib.hid (he2 ▸ ern_or (x * y))
  have O3 := Lib.hid (he3 ▸ ern_or (y + z))
  have O5 := Lib.hid (he5 ▸ ern_or (y * z))
  have O7 := Lib.hid (he7 ▸ ern_or (x * z))
  clear ht hsan ha hb hc hbx' hby' hs1 he1 hs2 he2 hs3 he3 hs4 he4 hs5 he5 hs6 he6 hs7 he7 hs8 he8 hs9 he9 hsn hen hs0 he0 hz2
  have H1b := Lib.hid (show txt (y + x) = s1 ∧ ern (y + x) = e1 from by rw [Int.add_comm]; exact H1.out)
  have H2b := Lib.hid (show txt (y * x) = s2 ∧ ern (y * x) = e2 from by rw [Int.mul_comm]; exact H2.out)
  have H4b := Lib.hid (show txt (x + (y + z)) = s4 ∧ ern (x + (y + z)) = e4 from by rw [← Int.add_assoc]; exact H4.out)
  have H6b := Lib.hid (show txt (x * (y * z)) = s6 ∧ ern (x * (y * z)) = e6 from by rw [← Int.mul_assoc]; exact H6.out)
  have H8b := Lib.hid (show txt (x * y + x * z) = s8 ∧ ern (x * y + x * z) = e8 from by rw [← Int.mul_add]; exact H8.out)
  have HNX : Hid (NumL sn.data.toList (-y)) := num_of HNN.out.1 HNN.out.2 rfl
  have h1 : e1 = 3 := H1.out.2.symm.trans q1
  have h2 : e2 = 0 := H2.out.2.symm.trans q2
  clear q1 q2
  rcases O3.out with h3 | h3 <;> rcases O5.out with h5 | h5 <;> rcases O7.out with h7 | h7
  all_goals
    (try have HN1 : Hid (NumL s1.data.toList (x + y)) := num_of H1.out.1 H1.out.2 h1)
    (try have HN2 : Hid (NumL s2.data.toList (x * y)) := num_of H2.out.1 H2.out.2 h2)
    (try have HN3 : Hid (NumL s3.data.toList (y + z)) := num_of H3.out.1 H3.out.2 h3)
    (try have HN5 : Hid (NumL s5.data.toList (y * z)) := num_of H5.out.1 H5.out.2 h5)
    (try have HN7 : Hid (NumL s7.data.toList (x * z)) := num_of H7.out.1 H7.out.2 h7)
    (try (have hz9 := HZ2.out h2; subst hz9))
    subst h1 h2 h3 h5 h7
    go_enter Tryz.func9, Tryz.ntmps9
    go_wp2_with (first
    | (go_at_call 40; (with_reducible refine (integers_ok a b c x y z _ HA.out HBB.out HC.out).mono ?_); rintro e W ⟨rfl, hbz⟩; have HB := Lib.hid hbz; clear hbz)
    | (go_at_call 42; (with_reducible refine (law_add a b x y s1 _ _ HA.out HBB.out H1.out.1 H1.out.2 (HT.out.below HB.out)).mono ?_); rintro e W ⟨rfl, hbz⟩; have HB := Lib.hid (below_then' HB.out hbz); clear hbz)
    | (go_at_call 42; (with_reducible refine (law_add b a y x s1 _ _ HBB.out HA.out H1b.out.1 H1b.out.2 (HT.out.below HB.out)).mono ?_); rintro e W ⟨rfl, hbz⟩; have HB := Lib.hid (below_then' HB.out hbz); clear hbz)
    | (go_at_call 19; (with_reducible refine (law_mul a b x y s2 _ _ HA.out HBB.out H2.out.1 H2.out.2 (HT.out.below HB.out)).mono ?_); rintro e W ⟨rfl, hbz⟩; have HB := Lib.hid (below_then' HB.out hbz); clear hbz)
    | (go_at_call 19; (with_reducible refine (law_mul b a y x s2 _ _ HBB.out HA.out H2b.out.1 H2b.out.2 (HT.out.below HB.out)).mono ?_); rintro e W ⟨rfl, hbz⟩; have HB := Lib.hid (below_then' HB.out hbz); clear hbz)
    | (go_at_call 42; (with_reducible refine (law_add b c y z s3 _ _ HBB.out HC.out H3.out.1 H3.out.2 (HT.out.below HB.out)).mono ?_); rintro e W ⟨rfl, hbz⟩; have HB := Lib.hid (below_then' HB.out hbz); clear hbz)
    | (go_at_call 42; (with_reducible refine (law_add s1 c (x + y) z s4 _ _ HN1.out HC.out H4.out.1 H4.out.2 (HT.out.below HB.out)).mono ?_); rintro e W ⟨rfl, hbz⟩; have HB := Lib.hid (below_then' HB.out hbz); clear hbz)
    | (go_at_call 42; (with_reducible refine (law_add a s3 x (y + z) s4 _ _ HA.out HN3.out H4b.out.1 H4b.out.2 (HT.out.below HB.out)).mono ?_); rintro e W ⟨rfl, hbz⟩; have HB := Lib.hid (below_then' HB.out hbz); clear hbz)
    | (go_at_call 19; (with_reducible refine (law_mul b c y z s5 _ _ HBB.out HC.out H5.out.1 H5.out.2 (HT.out.below HB.out)).mono ?_); rintro e W ⟨rfl, hbz⟩; have HB := Lib.hid (below_then' HB.out hbz); clear hbz)
    | (go_at_call 19; (with_reducible refine (law_mul s2 c (x * y) z s6 _ _ HN2.out HC.out H6.out.1 H6.out.2 (HT.out.below HB.out)).mono ?_); rintro e W ⟨rfl, hbz⟩; have HB := Lib.hid (below_then' HB.out hbz); clear hbz)
    | (go_at_call 19; (with_reducible refine (law_mul a s5 x (y * z) s6 _ _ HA.out HN5.out H6b.out.1 H6b.out.2 (HT.out.below HB.out)).mono ?_); rintro e W ⟨rfl, hbz⟩; have HB := Lib.hid (below_then' HB.out hbz); clear hbz)
    | (go_at_call 19; (with_reducible refine (law_mul a c x z s7 _ _ HA.out HC.out H7.out.1 H7.out.2 (HT.out.below HB.out)).mono ?_); rintro e W ⟨rfl, hbz⟩; have HB := Lib.hid (below_then' HB.out hbz); clear hbz)
    | (go_at_call 19; (with_reducible refine (law_mul a s3 x (y + z) s8 _ _ HA.out HN3.out H8.out.1 H8.out.2 (HT.out.below HB.out)).mono ?_); rintro e W ⟨rfl, hbz⟩; have HB := Lib.hid (below_then' HB.out hbz); clear hbz)
    | (go_at_call 42; (with_reducible refine (law_add s2 s7 (x * y) (x * z) s8 _ _ HN2.out HN7.out H8b.out.1 H8b.out.2 (HT.out.below HB.out)).mono ?_); rintro e W ⟨rfl, hbz⟩; have HB := Lib.hid (below_then' HB.out hbz); clear hbz)
    | (go_at_call 43; (with_reducible refine (law_neg b y sn 0 _ HBB.out HNN.out.1 HNN.out.2 (HT.out.below HB.out)).mono ?_); rintro e W ⟨rfl, hbz⟩; have HB := Lib.hid (below_then' HB.out hbz); clear hbz)
    | (go_at_call 44; (with_reducible refine (law_sub a b x y s9 _ _ HA.out HBB.out H9.out.1 H9.out.2 (HT.out.below HB.out)).mono ?_); rintro e W ⟨rfl, hbz⟩; have HB := Lib.hid (below_then' HB.out hbz); clear hbz)
    | (go_at_call 42; (with_reducible refine (law_add a sn x (-y) s9 _ _ HA.out HNX.out H9.out.1 H9.out.2 (HT.out.below HB.out)).mono ?_); rintro e W ⟨rfl, hbz⟩; have HB := Lib.hid (below_then' HB.out hbz); clear hbz)
    | (go_at_call 44; (with_reducible refine (law_sub a a x x ⟨#[48]⟩ 0 _ HA.out HA.out H0.out.1 H0.out.2 (HT.out.below HB.out)).mono ?_); rintro e W ⟨rfl, hbz⟩; have HB := Lib.hid (below_then' HB.out hbz); clear hbz)
    | (go_at_call 41; (with_reducible refine (same_c s4 s4 e4 e4 _ (.inl rfl)).mono ?_); rintro e W ⟨rfl, rfl⟩)
    | (go_at_call 41; (with_reducible refine (same_c s6 s6 e6 e6 _ (.inl rfl)).mono ?_); rintro e W ⟨rfl, rfl⟩)
    | (go_at_call 41; (with_reducible refine (same_c s8 s8 e8 e8 _ (.inl rfl)).mono ?_); rintro e W ⟨rfl, rfl⟩)
    | (go_at_call 18; (with_reducible refine (HS.out _ (HT.out.below HB.out)).mono ?_); rintro e W ⟨rfl, hbz⟩; have HB := Lib.hid (below_then' HB.out hbz); clear hbz))
    all_goals
      go_ret
      exact ⟨rfl, HB.out⟩


set_option maxRecDepth 100000 in
set_option maxHeartbeats 8000000 in
theorem ring_33 (hsan : San) (a b c : ByteArray) (x y z : Int) (w : World) (ht : Tabs w) (ha : NumL a.data.toList x) (hb : NumL b.data.toList y) (hc : NumL c.data.toList z) (q1 : ern (x + y) = 3) (q2 : ern (x * y) = 3) :
    Calls Tryz.prog 9 #[.string a, .string b, .string c] w fun e w' => e = .returned (.bool true) ∧ Below w.heap.size w w' := by
  have HT := Lib.hid ht
  have HS : Hid (∀ w : World, Tabs w → Calls Tryz.prog 18 #[] w fun e w' => e = .returned (.bool true) ∧ Below w.heap.size w w') := hsan
  have HA := Lib.hid ha
  have HBB := Lib.hid hb
  have HC := Lib.hid hc
  have hbx := num_is_zero ha
  have hby := num_is_zero hb
  obtain ⟨bx, hbx'⟩ : ∃ bx, decide (x = 0) = bx := ⟨_, rfl⟩
  obtain ⟨by_, hby'⟩ : ∃ bx, decide (y = 0) = bx := ⟨_, rfl⟩
  rw [hbx'] at hbx
  rw [hby'] at hby
  -- the answers, by name
  obtain ⟨s1, hs1⟩ : ∃ s, txt (x + y) = s := ⟨_, rfl⟩
  obtain ⟨e1, he1⟩ : ∃ e, ern (x + y) = e := ⟨_, rfl⟩
  obtain ⟨s2, hs2⟩ : ∃ s, txt (x * y) = s := ⟨_, rfl⟩
  obtain ⟨e2, he2⟩ : ∃ e, ern (x * y) = e := ⟨_, rfl⟩
  obtain ⟨s3, hs3⟩ : ∃ s, txt (y + z) = s := ⟨_, rfl⟩
  obtain ⟨e3, he3⟩ : ∃ e, ern (y + z) = e := ⟨_, rfl⟩
  obtain ⟨s4, hs4⟩ : ∃ s, txt (x + y + z) = s := ⟨_, rfl⟩
  obtain ⟨e4, he4⟩ : ∃ e, ern (x + y + z) = e := ⟨_, rfl⟩
  obtain ⟨s5, hs5⟩ : ∃ s, txt (y * z) = s := ⟨_, rfl⟩
  obtain ⟨e5, he5⟩ : ∃ e, ern (y * z) = e := ⟨_, rfl⟩
  obtain ⟨s6, hs6⟩ : ∃ s, txt (x * y * z) = s := ⟨_, rfl⟩
  obtain ⟨e6, he6⟩ : ∃ e, ern (x * y * z) = e := ⟨_, rfl⟩
  obtain ⟨s7, hs7⟩ : ∃ s, txt (x * z) = s := ⟨_, rfl⟩
  obtain ⟨e7, he7⟩ : ∃ e, ern (x * z) = e := ⟨_, rfl⟩
  obtain ⟨s8, hs8⟩ : ∃ s, txt (x * (y + z)) = s := ⟨_, rfl⟩
  obtain ⟨e8, he8⟩ : ∃ e, ern (x * (y + z)) = e := ⟨_, rfl⟩
  obtain ⟨s9, hs9⟩ : ∃ s, txt (x + -y) = s := ⟨_, rfl⟩
  obtain ⟨e9, he9⟩ : ∃ e, ern (x + -y) = e := ⟨_, rfl⟩
  obtain ⟨sn, hsn⟩ : ∃ s, txt (-y) = s := ⟨_, rfl⟩
  have hen : ern (-y) = 0 := if_pos (by rw [Int.natAbs_neg]; exact hb.2)
  have hs0 : txt (x + -x) = ⟨#[48]⟩ := by
    rw [show x + -x = 0 by omega]; exact (num_txt (s := ⟨#[48]⟩) num_zero).1
  have he0 : ern (x + -x) = 0 := by rw [show x + -x = 0 by omega]; exact if_pos (by decide)
  -- whether the product is 0
  have hz2 : e2 = 0 → (s2.toList == [48]) = (bx || by_) := fun h => by
    rw [num_is_zero (num_of hs2 he2 h), ← hbx', ← hby', Bool.eq_iff_iff]
    simp [Int.mul_eq_zero]
  obtain ⟨b2, hb2⟩ : ∃ b, (s2.toList == [48]) = b := ⟨_, rfl⟩
  have HZ2 : Hid (e2 = 0 → b2 = (bx || by_)) := fun h => by rw [← hb2]; exact hz2 h
  have H1 := Lib.hid (And.intro hs1 he1)
  have H2 := Lib.hid (And.intro hs2 he2)
  have H3 := Lib.hid (And.intro hs3 he3)
  have H4 := Lib.hid (And.intro hs4 he4)
  have H5 := Lib.hid (And.intro hs5 he5)
  have H6 := Lib.hid (And.intro hs6 he6)
  have H7 := Lib.hid (And.intro hs7 he7)
  have H8 := Lib.hid (And.intro hs8 he8)
  have H9 := Lib.hid (And.intro hs9 he9)
  have HNN := Lib.hid (And.intro hsn hen)
  have H0 := Lib.hid (And.intro hs0 he0)
  have O1 := Lib.hid (he1 ▸ ern_or (x + y))
  have O2 := Lib.hid (he2 ▸ ern_or (x * y))
  have O3 := Lib.hid (he3 ▸ ern_or (y + z))
  have O5 := Lib.hid (he5 ▸ ern_or (y * z))
  have O7 := Lib.hid (he7 ▸ ern_or (x * z))
  clear ht hsan ha hb hc hbx' hby' hs1 he1 hs2 he2 hs3 he3 hs4 he4 hs5 he5 hs6 he6 hs7 he7 hs8 he8 hs9 he9 hsn hen hs0 he0 hz2
  have H1b := Lib.hid (show txt (y + x) = s1 ∧ ern (y + x) = e1 from by rw [Int.add_comm]; exact H1.out)
  have H2b := Lib.hid (show txt (y * x) = s2 ∧ ern (y * x) = e2 from by rw [Int.mul_comm]; exact H2.out)
  have H4b := Lib.hid (show txt (x + (y + z)) = s4 ∧ ern (x + (y + z)) = e4 from by rw [← Int.add_assoc]; exact H4.out)
  have H6b := Lib.hid (show txt (x * (y * z)) = s6 ∧ ern (x * (y * z)) = e6 from by rw [← Int.mul_assoc]; exact H6.out)
  have H8b := Lib.hid (show txt (x * y + x * z) = s8 ∧ ern (x * y + x * z) = e8 from by rw [← Int.mul_add]; exact H8.out)
  have HNX : Hid (NumL sn.data.toList (-y)) := num_of HNN.out.1 HNN.out.2 rfl
  have h1 : e1 = 3 := H1.out.2.symm.trans q1
  have h2 : e2 = 3 := H2.out.2.symm.trans q2
  clear q1 q2
  rcases O3.out with h3 | h3 <;> rcases O5.out with h5 | h5 <;> rcases O7.out with h7 | h7
  all_goals
    (try have HN1 : Hid (NumL s1.data.toList (x + y)) := num_of H1.out.1 H1.out.2 h1)
    (try have HN2 : Hid (NumL s2.data.toList (x * y)) := num_of H2.out.1 H2.out.2 h2)
    (try have HN3 : Hid (NumL s3.data.toList (y + z)) := num_of H3.out.1 H3.out.2 h3)
    (try have HN5 : Hid (NumL s5.data.toList (y * z)) := num_of H5.out.1 H5.out.2 h5)
    (try have HN7 : Hid (NumL s7.data.toList (x * z)) := num_of H7.out.1 H7.out.2 h7)
    (try (have hz9 := HZ2.out h2; subst hz9))
    subst h1 h2 h3 h5 h7
    go_enter Tryz.func9, Tryz.ntmps9
    go_wp2_with (first
    | (go_at_call 40; (with_reducible refine (integers_ok a b c x y z _ HA.out HBB.out HC.out).mono ?_); rintro e W ⟨rfl, hbz⟩; have HB := Lib.hid hbz; clear hbz)
    | (go_at_call 42; (with_reducible refine (law_add a b x y s1 _ _ HA.out HBB.out H1.out.1 H1.out.2 (HT.out.below HB.out)).mono ?_); rintro e W ⟨rfl, hbz⟩; have HB := Lib.hid (below_then' HB.out hbz); clear hbz)
    | (go_at_call 42; (with_reducible refine (law_add b a y x s1 _ _ HBB.out HA.out H1b.out.1 H1b.out.2 (HT.out.below HB.out)).mono ?_); rintro e W ⟨rfl, hbz⟩; have HB := Lib.hid (below_then' HB.out hbz); clear hbz)
    | (go_at_call 19; (with_reducible refine (law_mul a b x y s2 _ _ HA.out HBB.out H2.out.1 H2.out.2 (HT.out.below HB.out)).mono ?_); rintro e W ⟨rfl, hbz⟩; have HB := Lib.hid (below_then' HB.out hbz); clear hbz)
    | (go_at_call 19; (with_reducible refine (law_mul b a y x s2 _ _ HBB.out HA.out H2b.out.1 H2b.out.2 (HT.out.below HB.out)).mono ?_); rintro e W ⟨rfl, hbz⟩; have HB := Lib.hid (below_then' HB.out hbz); clear hbz)
    | (go_at_call 42; (with_reducible refine (law_add b c y z s3 _ _ HBB.out HC.out H3.out.1 H3.out.2 (HT.out.below HB.out)).mono ?_); rintro e W ⟨rfl, hbz⟩; have HB := Lib.hid (below_then' HB.out hbz); clear hbz)
    | (go_at_call 42; (with_reducible refine (law_add s1 c (x + y) z s4 _ _ HN1.out HC.out H4.out.1 H4.out.2 (HT.out.below HB.out)).mono ?_); rintro e W ⟨rfl, hbz⟩; have HB := Lib.hid (below_then' HB.out hbz); clear hbz)
    | (go_at_call 42; (with_reducible refine (law_add a s3 x (y + z) s4 _ _ HA.out HN3.out H4b.out.1 H4b.out.2 (HT.out.below HB.out)).mono ?_); rintro e W ⟨rfl, hbz⟩; have HB := Lib.hid (below_then' HB.out hbz); clear hbz)
    | (go_at_call 19; (with_reducible refine (law_mul b c y z s5 _ _ HBB.out HC.out H5.out.1 H5.out.2 (HT.out.below HB.out)).mono ?_); rintro e W ⟨rfl, hbz⟩; have HB := Lib.hid (below_then' HB.out hbz); clear hbz)
    | (go_at_call 19; (with_reducible refine (law_mul s2 c (x * y) z s6 _ _ HN2.out HC.out H6.out.1 H6.out.2 (HT.out.below HB.out)).mono ?_); rintro e W ⟨rfl, hbz⟩; have HB := Lib.hid (below_then' HB.out hbz); clear hbz)
    | (go_at_call 19; (with_reducible refine (law_mul a s5 x (y * z) s6 _ _ HA.out HN5.out H6b.out.1 H6b.out.2 (HT.out.below HB.out)).mono ?_); rintro e W ⟨rfl, hbz⟩; have HB := Lib.hid (below_then' HB.out hbz); clear hbz)
    | (go_at_call 19; (with_reducible refine (law_mul a c x z s7 _ _ HA.out HC.out H7.out.1 H7.out.2 (HT.out.below HB.out)).mono ?_); rintro e W ⟨rfl, hbz⟩; have HB := Lib.hid (below_then' HB.out hbz); clear hbz)
    | (go_at_call 19; (with_reducible refine (law_mul a s3 x (y + z) s8 _ _ HA.out HN3.out H8.out.1 H8.out.2 (HT.out.below HB.out)).mono ?_); rintro e W ⟨rfl, hbz⟩; have HB := Lib.hid (below_then' HB.out hbz); clear hbz)
    | (go_at_call 42; (with_reducible refine (law_add s2 s7 (x * y) (x * z) s8 _ _ HN2.out HN7.out H8b.out.1 H8b.out.2 (HT.out.below HB.out)).mono ?_); rintro e W ⟨rfl, hbz⟩; have HB := Lib.hid (below_then' HB.out hbz); clear hbz)
    | (go_at_call 43; (with_reducible refine (law_neg b y sn 0 _ HBB.out HNN.out.1 HNN.out.2 (HT.out.below HB.out)).mono ?_); rintro e W ⟨rfl, hbz⟩; have HB := Lib.hid (below_then' HB.out hbz); clear hbz)
    | (go_at_call 44; (with_reducible refine (law_sub a b x y s9 _ _ HA.out HBB.out H9.out.1 H9.out.2 (HT.out.below HB.out)).mono ?_); rintro e W ⟨rfl, hbz⟩; have HB := Lib.hid (below_then' HB.out hbz); clear hbz)
    | (go_at_call 42; (with_reducible refine (law_add a sn x (-y) s9 _ _ HA.out HNX.out H9.out.1 H9.out.2 (HT.out.below HB.out)).mono ?_); rintro e W ⟨rfl, hbz⟩; have HB := Lib.hid (below_then' HB.out hbz); clear hbz)
    | (go_at_call 44; (with_reducible refine (law_sub a a x x ⟨#[48]⟩ 0 _ HA.out HA.out H0.out.1 H0.out.2 (HT.out.below HB.out)).mono ?_); rintro e W ⟨rfl, hbz⟩; have HB := Lib.hid (below_then' HB.out hbz); clear hbz)
    | (go_at_call 41; (with_reducible refine (same_c s4 s4 e4 e4 _ (.inl rfl)).mono ?_); rintro e W ⟨rfl, rfl⟩)
    | (go_at_call 41; (with_reducible refine (same_c s6 s6 e6 e6 _ (.inl rfl)).mono ?_); rintro e W ⟨rfl, rfl⟩)
    | (go_at_call 41; (with_reducible refine (same_c s8 s8 e8 e8 _ (.inl rfl)).mono ?_); rintro e W ⟨rfl, rfl⟩)
    | (go_at_call 18; (with_reducible refine (HS.out _ (HT.out.below HB.out)).mono ?_); rintro e W ⟨rfl, hbz⟩; have HB := Lib.hid (below_then' HB.out hbz); clear hbz))
    all_goals
      go_ret
      exact ⟨rfl, HB.out⟩


end Go.Proofs.YtbjgpbdkofadiaaGreatDoor
