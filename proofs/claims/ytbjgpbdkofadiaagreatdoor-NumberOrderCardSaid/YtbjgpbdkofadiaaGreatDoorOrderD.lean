/- The law NumberOrder: a part. -/
import Derived.Test.YtbjgpbdkofadiaaGreatDoorLawB
import Derived.Test.YtbjgpbdkofadiaaGreatDoorLawC
import Derived.Deep.DeepCutAuto
namespace Go.Proofs.YtbjgpbdkofadiaaGreatDoor
set_option linter.unusedVariables false
set_option linter.unusedSimpArgs false
open Go.RowKit Go.Shelf Go.Proofs

set_option maxRecDepth 100000 in
set_option maxHeartbeats 8000000 in
theorem order_D00 (hsan : San) (a b c : ByteArray) (x y z : Int) (w : World) (ht : Tabs w) (ha : NumL a.data.toList x) (hb : NumL b.data.toList y) (hc : NumL c.data.toList z) (q1 : ern (x + -y) = 3) (q3 : ern (x + z) = 0) (q4 : ern (y + z) = 0) (q2 : z ≤ 0) :
    Calls Tryz.prog 11 #[.string a, .string b, .string c] w fun e w' => e = .returned (.bool true) ∧ Below w.heap.size w w' := by
  have HT := Lib.hid ht
  have HA := Lib.hid ha
  have HBB := Lib.hid hb
  have HC := Lib.hid hc
  have HB : Hid (Below w.heap.size w w) := Below.refl _ _
  have HS : Hid (∀ w : World, Tabs w → Calls Tryz.prog 18 #[] w fun e w' => e = .returned (.bool true) ∧ Below w.heap.size w w') := hsan
  obtain ⟨p, hp⟩ : ∃ g, sgn (x + -y) = g := ⟨_, rfl⟩
  obtain ⟨q, hq⟩ : ∃ g, sgn (y + -z) = g := ⟨_, rfl⟩
  obtain ⟨r, hr⟩ : ∃ g, sgn (x + -z) = g := ⟨_, rfl⟩
  obtain ⟨g, hg⟩ : ∃ g, sgn z = g := ⟨_, rfl⟩
  have hpb := sg_rng (x + -y)
  rw [hp] at hpb
  obtain ⟨hp0, hp1⟩ := hpb
  have hqb := sg_rng (y + -z)
  rw [hq] at hqb
  obtain ⟨hq0, hq1⟩ := hqb
  have hrb := sg_rng (x + -z)
  rw [hr] at hrb
  obtain ⟨hr0, hr1⟩ := hrb
  have hg0 : g ≤ 0 := by rw [← hg]; have := sg_gt (x := z); omega
  have HP := Lib.hid hp
  have HQ := Lib.hid hq
  have HR := Lib.hid hr
  have HG := Lib.hid hg
  have HP' : Hid (sgn (y + -x) = -p) := by show _ = _; rw [← hp, ← sg_opp]; congr 1; omega
  have HPS : Hid (sgn (x + z + -(y + z)) = p) := by show _ = _; rw [← hp]; congr 1; omega
  have HTR : Hid (p ≤ 0 → q ≤ 0 → r ≤ 0) := fun h1 h2 => by
    rw [← hp] at h1; rw [← hq] at h2; rw [← hr]
    have k1 := sg_gt (x := x + -y); have k2 := sg_gt (x := y + -z); have k3 := sg_gt (x := x + -z)
    omega
  obtain ⟨bb, hbb⟩ : ∃ v, decide (x = y) = v := ⟨_, rfl⟩
  have t1 : (p == 0) = bb := by
    rw [← hbb, ← hp, Bool.eq_iff_iff, beq_iff_eq, sg_eq, decide_eq_true_iff]; omega
  have t2 : (a.toList == b.toList) = bb := by
    rw [← hbb, ByteArray.toList_eq, ByteArray.toList_eq, Bool.eq_iff_iff, beq_iff_eq, decide_eq_true_iff]
    constructor
    · intro e; rw [e] at ha; exact itoa_inj (ha.1.symm.trans hb.1)
    · intro e; rw [ha.1, hb.1, e]
  obtain ⟨sd, hsd⟩ : ∃ s, txt (x + -y) = s := ⟨_, rfl⟩
  obtain ⟨ed, hed⟩ : ∃ e, ern (x + -y) = e := ⟨_, rfl⟩
  have Hd := Lib.hid (And.intro hsd hed)
  have Od := Lib.hid (hed ▸ ern_or (x + -y))
  clear hsd hed
  obtain ⟨s1, hs1⟩ : ∃ s, txt (x + z) = s := ⟨_, rfl⟩
  obtain ⟨e1, he1⟩ : ∃ e, ern (x + z) = e := ⟨_, rfl⟩
  have H1 := Lib.hid (And.intro hs1 he1)
  have O1 := Lib.hid (he1 ▸ ern_or (x + z))
  clear hs1 he1
  obtain ⟨s2, hs2⟩ : ∃ s, txt (y + z) = s := ⟨_, rfl⟩
  obtain ⟨e2, he2⟩ : ∃ e, ern (y + z) = e := ⟨_, rfl⟩
  have H2 := Lib.hid (And.intro hs2 he2)
  have O2 := Lib.hid (he2 ▸ ern_or (y + z))
  clear hs2 he2
  obtain ⟨s3, hs3⟩ : ∃ s, txt (x * z) = s := ⟨_, rfl⟩
  obtain ⟨e3, he3⟩ : ∃ e, ern (x * z) = e := ⟨_, rfl⟩
  have H3 := Lib.hid (And.intro hs3 he3)
  have O3 := Lib.hid (he3 ▸ ern_or (x * z))
  clear hs3 he3
  obtain ⟨s4, hs4⟩ : ∃ s, txt (y * z) = s := ⟨_, rfl⟩
  obtain ⟨e4, he4⟩ : ∃ e, ern (y * z) = e := ⟨_, rfl⟩
  have H4 := Lib.hid (And.intro hs4 he4)
  have O4 := Lib.hid (he4 ▸ ern_or (y * z))
  clear hs4 he4
  have hd : ed = 3 := Hd.out.2.symm.trans q1
  have h1 : e1 = 0 := H1.out.2.symm.trans q3
  have h2 : e2 = 0 := H2.out.2.symm.trans q4
  clear ht ha hb hc hsan hbb hp hq hr hg q1 q2 q3 q4
  rcases O3.out with h3 | h3 <;> rcases O4.out with h4 | h4
  all_goals
    (try have HNd : Hid (NumL sd.data.toList (x + -y)) := num_of Hd.out.1 Hd.out.2 hd)
    (try have HN1 : Hid (NumL s1.data.toList (x + z)) := num_of H1.out.1 H1.out.2 h1)
    (try have HN2 : Hid (NumL s2.data.toList (y + z)) := num_of H2.out.1 H2.out.2 h2)
    (try have HN3 : Hid (NumL s3.data.toList (x * z)) := num_of H3.out.1 H3.out.2 h3)
    (try have HN4 : Hid (NumL s4.data.toList (y * z)) := num_of H4.out.1 H4.out.2 h4)
    subst hd h1 h2 h3 h4
    go_enter Tryz.func11, Tryz.ntmps11
    go_upto_region 7 with (first
    | (go_at_call 40; (with_reducible refine (integers_ok a b c x y z _ HA.out HBB.out HC.out).mono ?_); rintro e W ⟨rfl, hbz⟩; have HB := Lib.hid (below_then' HB.out hbz); clear hbz)
    | (go_at_call 45; (with_reducible refine (law_cmp_at a b x y p _ HA.out HBB.out HP.out (HT.out.below HB.out)).mono ?_); rintro e W ⟨rfl, hbz⟩; have HB := Lib.hid (below_then' HB.out hbz); clear hbz)
    | (go_at_call 45; (with_reducible refine (law_cmp_at b a y x (-p) _ HBB.out HA.out HP'.out (HT.out.below HB.out)).mono ?_); rintro e W ⟨rfl, hbz⟩; have HB := Lib.hid (below_then' HB.out hbz); clear hbz)
    | (go_at_call 45; (with_reducible refine (law_cmp_at b c y z q _ HBB.out HC.out HQ.out (HT.out.below HB.out)).mono ?_); rintro e W ⟨rfl, hbz⟩; have HB := Lib.hid (below_then' HB.out hbz); clear hbz)
    | (go_at_call 45; (with_reducible refine (law_cmp_at a c x z r _ HA.out HC.out HR.out (HT.out.below HB.out)).mono ?_); rintro e W ⟨rfl, hbz⟩; have HB := Lib.hid (below_then' HB.out hbz); clear hbz))
    obtain ⟨wk, hwk⟩ : ∃ wk : World, wk = W := ⟨_, rfl⟩
    go_cut [97] (fun u wx => u = .bool false ∧ wx = W)
    case first =>
      by_cases hpl : p ≤ 0
      · by_cases hql : q ≤ 0
        · have hrl : decide (0 < r) = false := decide_eq_false (Int.not_lt.2 (HTR.out hpl hql))
          go_wp2
          go_meet
          exact ⟨rfl, rfl⟩
        · go_wp2
          go_meet
          exact ⟨rfl, rfl⟩
      · go_wp2
        go_meet
        exact ⟨rfl, rfl⟩
    case rest =>
      obtain ⟨rfl, rfl⟩ := hcut
      go_wp2_with (first
      | (go_at_call 44; (with_reducible refine (law_sub a b x y sd _ _ HA.out HBB.out Hd.out.1 Hd.out.2 (HT.out.below HB.out)).mono ?_); rintro e W ⟨rfl, hbz⟩; have HB := Lib.hid (below_then' HB.out hbz); clear hbz)
      | (go_at_call 48; (with_reducible refine (law_sign_at sd (x + -y) p _ HNd.out HP.out (HT.out.below HB.out)).mono ?_); rintro e W ⟨rfl, hbz⟩; have HB := Lib.hid (below_then' HB.out hbz); clear hbz)
      | (go_at_call 42; (with_reducible refine (law_add a c x z s1 _ _ HA.out HC.out H1.out.1 H1.out.2 (HT.out.below HB.out)).mono ?_); rintro e W ⟨rfl, hbz⟩; have HB := Lib.hid (below_then' HB.out hbz); clear hbz)
      | (go_at_call 42; (with_reducible refine (law_add b c y z s2 _ _ HBB.out HC.out H2.out.1 H2.out.2 (HT.out.below HB.out)).mono ?_); rintro e W ⟨rfl, hbz⟩; have HB := Lib.hid (below_then' HB.out hbz); clear hbz)
      | (go_at_call 45; (with_reducible refine (law_cmp_at s1 s2 (x + z) (y + z) p _ HN1.out HN2.out HPS.out (HT.out.below HB.out)).mono ?_); rintro e W ⟨rfl, hbz⟩; have HB := Lib.hid (below_then' HB.out hbz); clear hbz)
      | (go_at_call 48; (with_reducible refine (law_sign_at c z g _ HC.out HG.out (HT.out.below HB.out)).mono ?_); rintro e W ⟨rfl, hbz⟩; have HB := Lib.hid (below_then' HB.out hbz); clear hbz)
      | (go_at_call 19; (with_reducible refine (law_mul a c x z s3 _ _ HA.out HC.out H3.out.1 H3.out.2 (HT.out.below HB.out)).mono ?_); rintro e W ⟨rfl, hbz⟩; have HB := Lib.hid (below_then' HB.out hbz); clear hbz)
      | (go_at_call 19; (with_reducible refine (law_mul b c y z s4 _ _ HBB.out HC.out H4.out.1 H4.out.2 (HT.out.below HB.out)).mono ?_); rintro e W ⟨rfl, hbz⟩; have HB := Lib.hid (below_then' HB.out hbz); clear hbz)
      | (go_at_call 18; (with_reducible refine (HS.out _ (HT.out.below HB.out)).mono ?_); rintro e W ⟨rfl, hbz⟩; have HB := Lib.hid (below_then' HB.out hbz); clear hbz))
      all_goals
        go_ret
        exact ⟨rfl, HB.out⟩

set_option maxRecDepth 100000 in
set_option maxHeartbeats 8000000 in
theorem order_D03 (hsan : San) (a b c : ByteArray) (x y z : Int) (w : World) (ht : Tabs w) (ha : NumL a.data.toList x) (hb : NumL b.data.toList y) (hc : NumL c.data.toList z) (q1 : ern (x + -y) = 3) (q3 : ern (x + z) = 0) (q4 : ern (y + z) = 3) (q2 : z ≤ 0) :
    Calls Tryz.prog 11 #[.string a, .string b, .string c] w fun e w' => e = .returned (.bool true) ∧ Below w.heap.size w w' := by
  have HT := Lib.hid ht
  have HA := Lib.hid ha
  have HBB := Lib.hid hb
  have HC := Lib.hid hc
  have HB : Hid (Below w.heap.size w w) := Below.refl _ _
  have HS : Hid (∀ w : World, Tabs w → Calls Tryz.prog 18 #[] w fun e w' => e = .returned (.bool true) ∧ Below w.heap.size w w') := hsan
  obtain ⟨p, hp⟩ : ∃ g, sgn (x + -y) = g := ⟨_, rfl⟩
  obtain ⟨q, hq⟩ : ∃ g, sgn (y + -z) = g := ⟨_, rfl⟩
  obtain ⟨r, hr⟩ : ∃ g, sgn (x + -z) = g := ⟨_, rfl⟩
  obtain ⟨g, hg⟩ : ∃ g, sgn z = g := ⟨_, rfl⟩
  have hpb := sg_rng (x + -y)
  rw [hp] at hpb
  obtain ⟨hp0, hp1⟩ := hpb
  have hqb := sg_rng (y + -z)
  rw [hq] at hqb
  obtain ⟨hq0, hq1⟩ := hqb
  have hrb := sg_rng (x + -z)
  rw [hr] at hrb
  obtain ⟨hr0, hr1⟩ := hrb
  have hg0 : g ≤ 0 := by rw [← hg]; have := sg_gt (x := z); omega
  have HP := Lib.hid hp
  have HQ := Lib.hid hq
  have HR := Lib.hid hr
  have HG := Lib.hid hg
  have HP' : Hid (sgn (y + -x) = -p) := by show _ = _; rw [← hp, ← sg_opp]; congr 1; omega
  have HPS : Hid (sgn (x + z + -(y + z)) = p) := by show _ = _; rw [← hp]; congr 1; omega
  have HTR : Hid (p ≤ 0 → q ≤ 0 → r ≤ 0) := fun h1 h2 => by
    rw [← hp] at h1; rw [← hq] at h2; rw [← hr]
    have k1 := sg_gt (x := x + -y); have k2 := sg_gt (x := y + -z); have k3 := sg_gt (x := x + -z)
    omega
  obtain ⟨bb, hbb⟩ : ∃ v, decide (x = y) = v := ⟨_, rfl⟩
  have t1 : (p == 0) = bb := by
    rw [← hbb, ← hp, Bool.eq_iff_iff, beq_iff_eq, sg_eq, decide_eq_true_iff]; omega
  have t2 : (a.toList == b.toList) = bb := by
    rw [← hbb, ByteArray.toList_eq, ByteArray.toList_eq, Bool.eq_iff_iff, beq_iff_eq, decide_eq_true_iff]
    constructor
    · intro e; rw [e] at ha; exact itoa_inj (ha.1.symm.trans hb.1)
    · intro e; rw [ha.1, hb.1, e]
  obtain ⟨sd, hsd⟩ : ∃ s, txt (x + -y) = s := ⟨_, rfl⟩
  obtain ⟨ed, hed⟩ : ∃ e, ern (x + -y) = e := ⟨_, rfl⟩
  have Hd := Lib.hid (And.intro hsd hed)
  have Od := Lib.hid (hed ▸ ern_or (x + -y))
  clear hsd hed
  obtain ⟨s1, hs1⟩ : ∃ s, txt (x + z) = s := ⟨_, rfl⟩
  obtain ⟨e1, he1⟩ : ∃ e, ern (x + z) = e := ⟨_, rfl⟩
  have H1 := Lib.hid (And.intro hs1 he1)
  have O1 := Lib.hid (he1 ▸ ern_or (x + z))
  clear hs1 he1
  obtain ⟨s2, hs2⟩ : ∃ s, txt (y + z) = s := ⟨_, rfl⟩
  obtain ⟨e2, he2⟩ : ∃ e, ern (y + z) = e := ⟨_, rfl⟩
  have H2 := Lib.hid (And.intro hs2 he2)
  have O2 := Lib.hid (he2 ▸ ern_or (y + z))
  clear hs2 he2
  obtain ⟨s3, hs3⟩ : ∃ s, txt (x * z) = s := ⟨_, rfl⟩
  obtain ⟨e3, he3⟩ : ∃ e, ern (x * z) = e := ⟨_, rfl⟩
  have H3 := Lib.hid (And.intro hs3 he3)
  have O3 := Lib.hid (he3 ▸ ern_or (x * z))
  clear hs3 he3
  obtain ⟨s4, hs4⟩ : ∃ s, txt (y * z) = s := ⟨_, rfl⟩
  obtain ⟨e4, he4⟩ : ∃ e, ern (y * z) = e := ⟨_, rfl⟩
  have H4 := Lib.hid (And.intro hs4 he4)
  have O4 := Lib.hid (he4 ▸ ern_or (y * z))
  clear hs4 he4
  have hd : ed = 3 := Hd.out.2.symm.trans q1
  have h1 : e1 = 0 := H1.out.2.symm.trans q3
  have h2 : e2 = 3 := H2.out.2.symm.trans q4
  clear ht ha hb hc hsan hbb hp hq hr hg q1 q2 q3 q4
  rcases O3.out with h3 | h3 <;> rcases O4.out with h4 | h4
  all_goals
    (try have HNd : Hid (NumL sd.data.toList (x + -y)) := num_of Hd.out.1 Hd.out.2 hd)
    (try have HN1 : Hid (NumL s1.data.toList (x + z)) := num_of H1.out.1 H1.out.2 h1)
    (try have HN2 : Hid (NumL s2.data.toList (y + z)) := num_of H2.out.1 H2.out.2 h2)
    (try have HN3 : Hid (NumL s3.data.toList (x * z)) := num_of H3.out.1 H3.out.2 h3)
    (try have HN4 : Hid (NumL s4.data.toList (y * z)) := num_of H4.out.1 H4.out.2 h4)
    subst hd h1 h2 h3 h4
    go_enter Tryz.func11, Tryz.ntmps11
    go_upto_region 7 with (first
    | (go_at_call 40; (with_reducible refine (integers_ok a b c x y z _ HA.out HBB.out HC.out).mono ?_); rintro e W ⟨rfl, hbz⟩; have HB := Lib.hid (below_then' HB.out hbz); clear hbz)
    | (go_at_call 45; (with_reducible refine (law_cmp_at a b x y p _ HA.out HBB.out HP.out (HT.out.below HB.out)).mono ?_); rintro e W ⟨rfl, hbz⟩; have HB := Lib.hid (below_then' HB.out hbz); clear hbz)
    | (go_at_call 45; (with_reducible refine (law_cmp_at b a y x (-p) _ HBB.out HA.out HP'.out (HT.out.below HB.out)).mono ?_); rintro e W ⟨rfl, hbz⟩; have HB := Lib.hid (below_then' HB.out hbz); clear hbz)
    | (go_at_call 45; (with_reducible refine (law_cmp_at b c y z q _ HBB.out HC.out HQ.out (HT.out.below HB.out)).mono ?_); rintro e W ⟨rfl, hbz⟩; have HB := Lib.hid (below_then' HB.out hbz); clear hbz)
    | (go_at_call 45; (with_reducible refine (law_cmp_at a c x z r _ HA.out HC.out HR.out (HT.out.below HB.out)).mono ?_); rintro e W ⟨rfl, hbz⟩; have HB := Lib.hid (below_then' HB.out hbz); clear hbz))
    obtain ⟨wk, hwk⟩ : ∃ wk : World, wk = W := ⟨_, rfl⟩
    go_cut [97] (fun u wx => u = .bool false ∧ wx = W)
    case first =>
      by_cases hpl : p ≤ 0
      · by_cases hql : q ≤ 0
        · have hrl : decide (0 < r) = false := decide_eq_false (Int.not_lt.2 (HTR.out hpl hql))
          go_wp2
          go_meet
          exact ⟨rfl, rfl⟩
        · go_wp2
          go_meet
          exact ⟨rfl, rfl⟩
      · go_wp2
        go_meet
        exact ⟨rfl, rfl⟩
    case rest =>
      obtain ⟨rfl, rfl⟩ := hcut
      go_wp2_with (first
      | (go_at_call 44; (with_reducible refine (law_sub a b x y sd _ _ HA.out HBB.out Hd.out.1 Hd.out.2 (HT.out.below HB.out)).mono ?_); rintro e W ⟨rfl, hbz⟩; have HB := Lib.hid (below_then' HB.out hbz); clear hbz)
      | (go_at_call 48; (with_reducible refine (law_sign_at sd (x + -y) p _ HNd.out HP.out (HT.out.below HB.out)).mono ?_); rintro e W ⟨rfl, hbz⟩; have HB := Lib.hid (below_then' HB.out hbz); clear hbz)
      | (go_at_call 42; (with_reducible refine (law_add a c x z s1 _ _ HA.out HC.out H1.out.1 H1.out.2 (HT.out.below HB.out)).mono ?_); rintro e W ⟨rfl, hbz⟩; have HB := Lib.hid (below_then' HB.out hbz); clear hbz)
      | (go_at_call 42; (with_reducible refine (law_add b c y z s2 _ _ HBB.out HC.out H2.out.1 H2.out.2 (HT.out.below HB.out)).mono ?_); rintro e W ⟨rfl, hbz⟩; have HB := Lib.hid (below_then' HB.out hbz); clear hbz)
      | (go_at_call 45; (with_reducible refine (law_cmp_at s1 s2 (x + z) (y + z) p _ HN1.out HN2.out HPS.out (HT.out.below HB.out)).mono ?_); rintro e W ⟨rfl, hbz⟩; have HB := Lib.hid (below_then' HB.out hbz); clear hbz)
      | (go_at_call 48; (with_reducible refine (law_sign_at c z g _ HC.out HG.out (HT.out.below HB.out)).mono ?_); rintro e W ⟨rfl, hbz⟩; have HB := Lib.hid (below_then' HB.out hbz); clear hbz)
      | (go_at_call 19; (with_reducible refine (law_mul a c x z s3 _ _ HA.out HC.out H3.out.1 H3.out.2 (HT.out.below HB.out)).mono ?_); rintro e W ⟨rfl, hbz⟩; have HB := Lib.hid (below_then' HB.out hbz); clear hbz)
      | (go_at_call 19; (with_reducible refine (law_mul b c y z s4 _ _ HBB.out HC.out H4.out.1 H4.out.2 (HT.out.below HB.out)).mono ?_); rintro e W ⟨rfl, hbz⟩; have HB := Lib.hid (below_then' HB.out hbz); clear hbz)
      | (go_at_call 18; (with_reducible refine (HS.out _ (HT.out.below HB.out)).mono ?_); rintro e W ⟨rfl, hbz⟩; have HB := Lib.hid (below_then' HB.out hbz); clear hbz))
      all_goals
        go_ret
        exact ⟨rfl, HB.out⟩

set_option maxRecDepth 100000 in
set_option maxHeartbeats 8000000 in
theorem order_D30 (hsan : San) (a b c : ByteArray) (x y z : Int) (w : World) (ht : Tabs w) (ha : NumL a.data.toList x) (hb : NumL b.data.toList y) (hc : NumL c.data.toList z) (q1 : ern (x + -y) = 3) (q3 : ern (x + z) = 3) (q4 : ern (y + z) = 0) (q2 : z ≤ 0) :
    Calls Tryz.prog 11 #[.string a, .string b, .string c] w fun e w' => e = .returned (.bool true) ∧ Below w.heap.size w w' := by
  have HT := Lib.hid ht
  have HA := Lib.hid ha
  have HBB := Lib.hid hb
  have HC := Lib.hid hc
  have HB : Hid (Below w.heap.size w w) := Below.refl _ _
  have HS : Hid (∀ w : World, Tabs w → Calls Tryz.prog 18 #[] w fun e w' => e = .returned (.bool true) ∧ Below w.heap.size w w') := hsan
  obtain ⟨p, hp⟩ : ∃ g, sgn (x + -y) = g := ⟨_, rfl⟩
  obtain ⟨q, hq⟩ : ∃ g, sgn (y + -z) = g := ⟨_, rfl⟩
  obtain ⟨r, hr⟩ : ∃ g, sgn (x + -z) = g := ⟨_, rfl⟩
  obtain ⟨g, hg⟩ : ∃ g, sgn z = g := ⟨_, rfl⟩
  have hpb := sg_rng (x + -y)
  rw [hp] at hpb
  obtain ⟨hp0, hp1⟩ := hpb
  have hqb := sg_rng (y + -z)
  rw [hq] at hqb
  obtain ⟨hq0, hq1⟩ := hqb
  have hrb := sg_rng (x + -z)
  rw [hr] at hrb
  obtain ⟨hr0, hr1⟩ := hrb
  have hg0 : g ≤ 0 := by rw [← hg]; have := sg_gt (x := z); omega
  have HP := Lib.hid hp
  have HQ := Lib.hid hq
  have HR := Lib.hid hr
  have HG := Lib.hid hg
  have HP' : Hid (sgn (y + -x) = -p) := by show _ = _; rw [← hp, ← sg_opp]; congr 1; omega
  have HPS : Hid (sgn (x + z + -(y + z)) = p) := by show _ = _; rw [← hp]; congr 1; omega
  have HTR : Hid (p ≤ 0 → q ≤ 0 → r ≤ 0) := fun h1 h2 => by
    rw [← hp] at h1; rw [← hq] at h2; rw [← hr]
    have k1 := sg_gt (x := x + -y); have k2 := sg_gt (x := y + -z); have k3 := sg_gt (x := x + -z)
    omega
  obtain ⟨bb, hbb⟩ : ∃ v, decide (x = y) = v := ⟨_, rfl⟩
  have t1 : (p == 0) = bb := by
    rw [← hbb, ← hp, Bool.eq_iff_iff, beq_iff_eq, sg_eq, decide_eq_true_iff]; omega
  have t2 : (a.toList == b.toList) = bb := by
    rw [← hbb, ByteArray.toList_eq, ByteArray.toList_eq, Bool.eq_iff_iff, beq_iff_eq, decide_eq_true_iff]
    constructor
    · intro e; rw [e] at ha; exact itoa_inj (ha.1.symm.trans hb.1)
    · intro e; rw [ha.1, hb.1, e]
  obtain ⟨sd, hsd⟩ : ∃ s, txt (x + -y) = s := ⟨_, rfl⟩
  obtain ⟨ed, hed⟩ : ∃ e, ern (x + -y) = e := ⟨_, rfl⟩
  have Hd := Lib.hid (And.intro hsd hed)
  have Od := Lib.hid (hed ▸ ern_or (x + -y))
  clear hsd hed
  obtain ⟨s1, hs1⟩ : ∃ s, txt (x + z) = s := ⟨_, rfl⟩
  obtain ⟨e1, he1⟩ : ∃ e, ern (x + z) = e := ⟨_, rfl⟩
  have H1 := Lib.hid (And.intro hs1 he1)
  have O1 := Lib.hid (he1 ▸ ern_or (x + z))
  clear hs1 he1
  obtain ⟨s2, hs2⟩ : ∃ s, txt (y + z) = s := ⟨_, rfl⟩
  obtain ⟨e2, he2⟩ : ∃ e, ern (y + z) = e := ⟨_, rfl⟩
  have H2 := Lib.hid (And.intro hs2 he2)
  have O2 := Lib.hid (he2 ▸ ern_or (y + z))
  clear hs2 he2
  obtain ⟨s3, hs3⟩ : ∃ s, txt (x * z) = s := ⟨_, rfl⟩
  obtain ⟨e3, he3⟩ : ∃ e, ern (x * z) = e := ⟨_, rfl⟩
  have H3 := Lib.hid (And.intro hs3 he3)
  have O3 := Lib.hid (he3 ▸ ern_or (x * z))
  clear hs3 he3
  obtain ⟨s4, hs4⟩ : ∃ s, txt (y * z) = s := ⟨_, rfl⟩
  obtain ⟨e4, he4⟩ : ∃ e, ern (y * z) = e := ⟨_, rfl⟩
  have H4 := Lib.hid (And.intro hs4 he4)
  have O4 := Lib.hid (he4 ▸ ern_or (y * z))
  clear hs4 he4
  have hd : ed = 3 := Hd.out.2.symm.trans q1
  have h1 : e1 = 3 := H1.out.2.symm.trans q3
  have h2 : e2 = 0 := H2.out.2.symm.trans q4
  clear ht ha hb hc hsan hbb hp hq hr hg q1 q2 q3 q4
  rcases O3.out with h3 | h3 <;> rcases O4.out with h4 | h4
  all_goals
    (try have HNd : Hid (NumL sd.data.toList (x + -y)) := num_of Hd.out.1 Hd.out.2 hd)
    (try have HN1 : Hid (NumL s1.data.toList (x + z)) := num_of H1.out.1 H1.out.2 h1)
    (try have HN2 : Hid (NumL s2.data.toList (y + z)) := num_of H2.out.1 H2.out.2 h2)
    (try have HN3 : Hid (NumL s3.data.toList (x * z)) := num_of H3.out.1 H3.out.2 h3)
    (try have HN4 : Hid (NumL s4.data.toList (y * z)) := num_of H4.out.1 H4.out.2 h4)
    subst hd h1 h2 h3 h4
    go_enter Tryz.func11, Tryz.ntmps11
    go_upto_region 7 with (first
    | (go_at_call 40; (with_reducible refine (integers_ok a b c x y z _ HA.out HBB.out HC.out).mono ?_); rintro e W ⟨rfl, hbz⟩; have HB := Lib.hid (below_then' HB.out hbz); clear hbz)
    | (go_at_call 45; (with_reducible refine (law_cmp_at a b x y p _ HA.out HBB.out HP.out (HT.out.below HB.out)).mono ?_); rintro e W ⟨rfl, hbz⟩; have HB := Lib.hid (below_then' HB.out hbz); clear hbz)
    | (go_at_call 45; (with_reducible refine (law_cmp_at b a y x (-p) _ HBB.out HA.out HP'.out (HT.out.below HB.out)).mono ?_); rintro e W ⟨rfl, hbz⟩; have HB := Lib.hid (below_then' HB.out hbz); clear hbz)
    | (go_at_call 45; (with_reducible refine (law_cmp_at b c y z q _ HBB.out HC.out HQ.out (HT.out.below HB.out)).mono ?_); rintro e W ⟨rfl, hbz⟩; have HB := Lib.hid (below_then' HB.out hbz); clear hbz)
    | (go_at_call 45; (with_reducible refine (law_cmp_at a c x z r _ HA.out HC.out HR.out (HT.out.below HB.out)).mono ?_); rintro e W ⟨rfl, hbz⟩; have HB := Lib.hid (below_then' HB.out hbz); clear hbz))
    obtain ⟨wk, hwk⟩ : ∃ wk : World, wk = W := ⟨_, rfl⟩
    go_cut [97] (fun u wx => u = .bool false ∧ wx = W)
    case first =>
      by_cases hpl : p ≤ 0
      · by_cases hql : q ≤ 0
        · have hrl : decide (0 < r) = false := decide_eq_false (Int.not_lt.2 (HTR.out hpl hql))
          go_wp2
          go_meet
          exact ⟨rfl, rfl⟩
        · go_wp2
          go_meet
          exact ⟨rfl, rfl⟩
      · go_wp2
        go_meet
        exact ⟨rfl, rfl⟩
    case rest =>
      obtain ⟨rfl, rfl⟩ := hcut
      go_wp2_with (first
      | (go_at_call 44; (with_reducible refine (law_sub a b x y sd _ _ HA.out HBB.out Hd.out.1 Hd.out.2 (HT.out.below HB.out)).mono ?_); rintro e W ⟨rfl, hbz⟩; have HB := Lib.hid (below_then' HB.out hbz); clear hbz)
      | (go_at_call 48; (with_reducible refine (law_sign_at sd (x + -y) p _ HNd.out HP.out (HT.out.below HB.out)).mono ?_); rintro e W ⟨rfl, hbz⟩; have HB := Lib.hid (below_then' HB.out hbz); clear hbz)
      | (go_at_call 42; (with_reducible refine (law_add a c x z s1 _ _ HA.out HC.out H1.out.1 H1.out.2 (HT.out.below HB.out)).mono ?_); rintro e W ⟨rfl, hbz⟩; have HB := Lib.hid (below_then' HB.out hbz); clear hbz)
      | (go_at_call 42; (with_reducible refine (law_add b c y z s2 _ _ HBB.out HC.out H2.out.1 H2.out.2 (HT.out.below HB.out)).mono ?_); rintro e W ⟨rfl, hbz⟩; have HB := Lib.hid (below_then' HB.out hbz); clear hbz)
      | (go_at_call 45; (with_reducible refine (law_cmp_at s1 s2 (x + z) (y + z) p _ HN1.out HN2.out HPS.out (HT.out.below HB.out)).mono ?_); rintro e W ⟨rfl, hbz⟩; have HB := Lib.hid (below_then' HB.out hbz); clear hbz)
      | (go_at_call 48; (with_reducible refine (law_sign_at c z g _ HC.out HG.out (HT.out.below HB.out)).mono ?_); rintro e W ⟨rfl, hbz⟩; have HB := Lib.hid (below_then' HB.out hbz); clear hbz)
      | (go_at_call 19; (with_reducible refine (law_mul a c x z s3 _ _ HA.out HC.out H3.out.1 H3.out.2 (HT.out.below HB.out)).mono ?_); rintro e W ⟨rfl, hbz⟩; have HB := Lib.hid (below_then' HB.out hbz); clear hbz)
      | (go_at_call 19; (with_reducible refine (law_mul b c y z s4 _ _ HBB.out HC.out H4.out.1 H4.out.2 (HT.out.below HB.out)).mono ?_); rintro e W ⟨rfl, hbz⟩; have HB := Lib.hid (below_then' HB.out hbz); clear hbz)
      | (go_at_call 18; (with_reducible refine (HS.out _ (HT.out.below HB.out)).mono ?_); rintro e W ⟨rfl, hbz⟩; have HB := Lib.hid (below_then' HB.out hbz); clear hbz))
      all_goals
        go_ret
        exact ⟨rfl, HB.out⟩

set_option maxRecDepth 100000 in
set_option maxHeartbeats 8000000 in
theorem order_D33 (hsan : San) (a b c : ByteArray) (x y z : Int) (w : World) (ht : Tabs w) (ha : NumL a.data.toList x) (hb : NumL b.data.toList y) (hc : NumL c.data.toList z) (q1 : ern (x + -y) = 3) (q3 : ern (x + z) = 3) (q4 : ern (y + z) = 3) (q2 : z ≤ 0) :
    Calls Tryz.prog 11 #[.string a, .string b, .string c] w fun e w' => e = .returned (.bool true) ∧ Below w.heap.size w w' := by
  have HT := Lib.hid ht
  have HA := Lib.hid ha
  have HBB := Lib.hid hb
  have HC := Lib.hid hc
  have HB : Hid (Below w.heap.size w w) := Below.refl _ _
  have HS : Hid (∀ w : World, Tabs w → Calls Tryz.prog 18 #[] w fun e w' => e = .returned (.bool true) ∧ Below w.heap.size w w') := hsan
  obtain ⟨p, hp⟩ : ∃ g, sgn (x + -y) = g := ⟨_, rfl⟩
  obtain ⟨q, hq⟩ : ∃ g, sgn (y + -z) = g := ⟨_, rfl⟩
  obtain ⟨r, hr⟩ : ∃ g, sgn (x + -z) = g := ⟨_, rfl⟩
  obtain ⟨g, hg⟩ : ∃ g, sgn z = g := ⟨_, rfl⟩
  have hpb := sg_rng (x + -y)
  rw [hp] at hpb
  obtain ⟨hp0, hp1⟩ := hpb
  have hqb := sg_rng (y + -z)
  rw [hq] at hqb
  obtain ⟨hq0, hq1⟩ := hqb
  have hrb := sg_rng (x + -z)
  rw [hr] at hrb
  obtain ⟨hr0, hr1⟩ := hrb
  have hg0 : g ≤ 0 := by rw [← hg]; have := sg_gt (x := z); omega
  have HP := Lib.hid hp
  have HQ := Lib.hid hq
  have HR := Lib.hid hr
  have HG := Lib.hid hg
  have HP' : Hid (sgn (y + -x) = -p) := by show _ = _; rw [← hp, ← sg_opp]; congr 1; omega
  have HPS : Hid (sgn (x + z + -(y + z)) = p) := by show _ = _; rw [← hp]; congr 1; omega
  have HTR : Hid (p ≤ 0 → q ≤ 0 → r ≤ 0) := fun h1 h2 => by
    rw [← hp] at h1; rw [← hq] at h2; rw [← hr]
    have k1 := sg_gt (x := x + -y); have k2 := sg_gt (x := y + -z); have k3 := sg_gt (x := x + -z)
    omega
  obtain ⟨bb, hbb⟩ : ∃ v, decide (x = y) = v := ⟨_, rfl⟩
  have t1 : (p == 0) = bb := by
    rw [← hbb, ← hp, Bool.eq_iff_iff, beq_iff_eq, sg_eq, decide_eq_true_iff]; omega
  have t2 : (a.toList == b.toList) = bb := by
    rw [← hbb, ByteArray.toList_eq, ByteArray.toList_eq, Bool.eq_iff_iff, beq_iff_eq, decide_eq_true_iff]
    constructor
    · intro e; rw [e] at ha; exact itoa_inj (ha.1.symm.trans hb.1)
    · intro e; rw [ha.1, hb.1, e]
  obtain ⟨sd, hsd⟩ : ∃ s, txt (x + -y) = s := ⟨_, rfl⟩
  obtain ⟨ed, hed⟩ : ∃ e, ern (x + -y) = e := ⟨_, rfl⟩
  have Hd := Lib.hid (And.intro hsd hed)
  have Od := Lib.hid (hed ▸ ern_or (x + -y))
  clear hsd hed
  obtain ⟨s1, hs1⟩ : ∃ s, txt (x + z) = s := ⟨_, rfl⟩
  obtain ⟨e1, he1⟩ : ∃ e, ern (x + z) = e := ⟨_, rfl⟩
  have H1 := Lib.hid (And.intro hs1 he1)
  have O1 := Lib.hid (he1 ▸ ern_or (x + z))
  clear hs1 he1
  obtain ⟨s2, hs2⟩ : ∃ s, txt (y + z) = s := ⟨_, rfl⟩
  obtain ⟨e2, he2⟩ : ∃ e, ern (y + z) = e := ⟨_, rfl⟩
  have H2 := Lib.hid (And.intro hs2 he2)
  have O2 := Lib.hid (he2 ▸ ern_or (y + z))
  clear hs2 he2
  obtain ⟨s3, hs3⟩ : ∃ s, txt (x * z) = s := ⟨_, rfl⟩
  obtain ⟨e3, he3⟩ : ∃ e, ern (x * z) = e := ⟨_, rfl⟩
  have H3 := Lib.hid (And.intro hs3 he3)
  have O3 := Lib.hid (he3 ▸ ern_or (x * z))
  clear hs3 he3
  obtain ⟨s4, hs4⟩ : ∃ s, txt (y * z) = s := ⟨_, rfl⟩
  obtain ⟨e4, he4⟩ : ∃ e, ern (y * z) = e := ⟨_, rfl⟩
  have H4 := Lib.hid (And.intro hs4 he4)
  have O4 := Lib.hid (he4 ▸ ern_or (y * z))
  clear hs4 he4
  have hd : ed = 3 := Hd.out.2.symm.trans q1
  have h1 : e1 = 3 := H1.out.2.symm.trans q3
  have h2 : e2 = 3 := H2.out.2.symm.trans q4
  clear ht ha hb hc hsan hbb hp hq hr hg q1 q2 q3 q4
  rcases O3.out with h3 | h3 <;> rcases O4.out with h4 | h4
  all_goals
    (try have HNd : Hid (NumL sd.data.toList (x + -y)) := num_of Hd.out.1 Hd.out.2 hd)
    (try have HN1 : Hid (NumL s1.data.toList (x + z)) := num_of H1.out.1 H1.out.2 h1)
    (try have HN2 : Hid (NumL s2.data.toList (y + z)) := num_of H2.out.1 H2.out.2 h2)
    (try have HN3 : Hid (NumL s3.data.toList (x * z)) := num_of H3.out.1 H3.out.2 h3)
    (try have HN4 : Hid (NumL s4.data.toList (y * z)) := num_of H4.out.1 H4.out.2 h4)
    subst hd h1 h2 h3 h4
    go_enter Tryz.func11, Tryz.ntmps11
    go_upto_region 7 with (first
    | (go_at_call 40; (with_reducible refine (integers_ok a b c x y z _ HA.out HBB.out HC.out).mono ?_); rintro e W ⟨rfl, hbz⟩; have HB := Lib.hid (below_then' HB.out hbz); clear hbz)
    | (go_at_call 45; (with_reducible refine (law_cmp_at a b x y p _ HA.out HBB.out HP.out (HT.out.below HB.out)).mono ?_); rintro e W ⟨rfl, hbz⟩; have HB := Lib.hid (below_then' HB.out hbz); clear hbz)
    | (go_at_call 45; (with_reducible refine (law_cmp_at b a y x (-p) _ HBB.out HA.out HP'.out (HT.out.below HB.out)).mono ?_); rintro e W ⟨rfl, hbz⟩; have HB := Lib.hid (below_then' HB.out hbz); clear hbz)
    | (go_at_call 45; (with_reducible refine (law_cmp_at b c y z q _ HBB.out HC.out HQ.out (HT.out.below HB.out)).mono ?_); rintro e W ⟨rfl, hbz⟩; have HB := Lib.hid (below_then' HB.out hbz); clear hbz)
    | (go_at_call 45; (with_reducible refine (law_cmp_at a c x z r _ HA.out HC.out HR.out (HT.out.below HB.out)).mono ?_); rintro e W ⟨rfl, hbz⟩; have HB := Lib.hid (below_then' HB.out hbz); clear hbz))
    obtain ⟨wk, hwk⟩ : ∃ wk : World, wk = W := ⟨_, rfl⟩
    go_cut [97] (fun u wx => u = .bool false ∧ wx = W)
    case first =>
      by_cases hpl : p ≤ 0
      · by_cases hql : q ≤ 0
        · have hrl : decide (0 < r) = false := decide_eq_false (Int.not_lt.2 (HTR.out hpl hql))
          go_wp2
          go_meet
          exact ⟨rfl, rfl⟩
        · go_wp2
          go_meet
          exact ⟨rfl, rfl⟩
      · go_wp2
        go_meet
        exact ⟨rfl, rfl⟩
    case rest =>
      obtain ⟨rfl, rfl⟩ := hcut
      go_wp2_with (first
      | (go_at_call 44; (with_reducible refine (law_sub a b x y sd _ _ HA.out HBB.out Hd.out.1 Hd.out.2 (HT.out.below HB.out)).mono ?_); rintro e W ⟨rfl, hbz⟩; have HB := Lib.hid (below_then' HB.out hbz); clear hbz)
      | (go_at_call 48; (with_reducible refine (law_sign_at sd (x + -y) p _ HNd.out HP.out (HT.out.below HB.out)).mono ?_); rintro e W ⟨rfl, hbz⟩; have HB := Lib.hid (below_then' HB.out hbz); clear hbz)
      | (go_at_call 42; (with_reducible refine (law_add a c x z s1 _ _ HA.out HC.out H1.out.1 H1.out.2 (HT.out.below HB.out)).mono ?_); rintro e W ⟨rfl, hbz⟩; have HB := Lib.hid (below_then' HB.out hbz); clear hbz)
      | (go_at_call 42; (with_reducible refine (law_add b c y z s2 _ _ HBB.out HC.out H2.out.1 H2.out.2 (HT.out.below HB.out)).mono ?_); rintro e W ⟨rfl, hbz⟩; have HB := Lib.hid (below_then' HB.out hbz); clear hbz)
      | (go_at_call 45; (with_reducible refine (law_cmp_at s1 s2 (x + z) (y + z) p _ HN1.out HN2.out HPS.out (HT.out.below HB.out)).mono ?_); rintro e W ⟨rfl, hbz⟩; have HB := Lib.hid (below_then' HB.out hbz); clear hbz)
      | (go_at_call 48; (with_reducible refine (law_sign_at c z g _ HC.out HG.out (HT.out.below HB.out)).mono ?_); rintro e W ⟨rfl, hbz⟩; have HB := Lib.hid (below_then' HB.out hbz); clear hbz)
      | (go_at_call 19; (with_reducible refine (law_mul a c x z s3 _ _ HA.out HC.out H3.out.1 H3.out.2 (HT.out.below HB.out)).mono ?_); rintro e W ⟨rfl, hbz⟩; have HB := Lib.hid (below_then' HB.out hbz); clear hbz)
      | (go_at_call 19; (with_reducible refine (law_mul b c y z s4 _ _ HBB.out HC.out H4.out.1 H4.out.2 (HT.out.below HB.out)).mono ?_); rintro e W ⟨rfl, hbz⟩; have HB := Lib.hid (below_then' HB.out hbz); clear hbz)
      | (go_at_call 18; (with_reducible refine (HS.out _ (HT.out.below HB.out)).mono ?_); rintro e W ⟨rfl, hbz⟩; have HB := Lib.hid (below_then' HB.out hbz); clear hbz))
      all_goals
        go_ret
        exact ⟨rfl, HB.out⟩

end Go.Proofs.YtbjgpbdkofadiaaGreatDoor
