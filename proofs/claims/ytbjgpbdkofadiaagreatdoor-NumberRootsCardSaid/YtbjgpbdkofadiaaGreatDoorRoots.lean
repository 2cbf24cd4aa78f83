/- The law NumberRoots. -/
import Derived.Test.YtbjgpbdkofadiaaGreatDoorLawB
import Derived.Test.YtbjgpbdkofadiaaGreatDoorLawC
namespace Go.Proofs.YtbjgpbdkofadiaaGreatDoor
set_option linter.unusedVariables false
set_option linter.unusedSimpArgs false
open Go.RowKit Go.Shelf Go.Proofs

theorem root_sq (x : Int) : (root (x * x).natAbs : Int) = (x.natAbs : Int) := by
  rw [root_eq (n := (x * x).natAbs) (r := x.natAbs)]
  · rw [Int.natAbs_mul]; exact Nat.le_refl _
  · rw [Int.natAbs_mul]; exact Nat.mul_lt_mul'' (by omega) (by omega)
theorem root_facts {x : Int} (hx : 0 ≤ x) (hf : x.natAbs < 10 ^ 200) {r : Int} (hr : (root x.natAbs : Int) = r) : 0 ≤ r ∧ r * r ≤ x ∧ x < (r + 1) * (r + 1) ∧ r.natAbs < 10 ^ 200 ∧ (r + 1).natAbs < 10 ^ 200 ∧ (r * r).natAbs < 10 ^ 200 := by
  have h1 := root_le x.natAbs
  have h2 := root_lt x.natAbs
  have e : (x.natAbs : Int) = x := by omega
  have k1 : r * r ≤ x := by rw [← hr, ← e]; exact_mod_cast h1
  have k2 : x < (r + 1) * (r + 1) := by rw [← hr, ← e]; exact_mod_cast h2
  have hr0 : 0 ≤ r := by rw [← hr]; exact Int.natCast_nonneg _
  have hb : root x.natAbs < 10 ^ 100 := by
    rcases Nat.lt_or_ge (root x.natAbs) (10 ^ 100) with h | h
    · exact h
    · exfalso
      have h3 : 10 ^ 100 * 10 ^ 100 ≤ root x.natAbs * root x.natAbs := Nat.mul_le_mul h h
      have h4 : (10 : Nat) ^ 100 * 10 ^ 100 = 10 ^ 200 := by decide
      omega
  have h5 : (10 : Nat) ^ 100 + 1 < 10 ^ 200 := by decide
  have h6 : (r * r).natAbs < 10 ^ 200 := by
    have : 0 ≤ r * r := Int.mul_nonneg hr0 hr0
    omega
  refine ⟨hr0, k1, k2, ?_, ?_, h6⟩
  · rw [← hr, Int.natAbs_natCast]; omega
  · have : (r + 1).natAbs = root x.natAbs + 1 := by omega
    omega

set_option maxRecDepth 100000 in
set_option maxHeartbeats 1000000 in
theorem numberroots_bad (hsan : San) (a : ByteArray) (w : World) (ht : Tabs w) (h : ¬ ∃ x y z, NumL a.data.toList x ∧ NumL (ByteArray.mk #[48]).data.toList y ∧ NumL (ByteArray.mk #[48]).data.toList z) :
    Calls Tryz.prog 13 #[.string a] w fun e w' => e = .returned (.bool true) ∧ Below w.heap.size w w' := by
  have HT := Lib.hid ht
  have HN := Lib.hid h
  have HB : Hid (Below w.heap.size w w) := Below.refl _ _
  have HS : Hid (∀ w : World, Tabs w → Calls Tryz.prog 18 #[] w fun e w' => e = .returned (.bool true) ∧ Below w.heap.size w w') := hsan
  clear ht h hsan
  go_enter Tryz.func13, Tryz.ntmps13
  go_wp2_with (first
  | (go_at_call 40; (with_reducible refine (integers_bad a ⟨#[48]⟩ ⟨#[48]⟩ _ HN.out).mono ?_); rintro e W ⟨rfl, hbz⟩; have HB := Lib.hid (below_then' HB.out hbz); clear hbz)
  | (go_at_call 18; (with_reducible refine (HS.out _ (HT.out.below HB.out)).mono ?_); rintro e W ⟨rfl, hbz⟩; have HB := Lib.hid (below_then' HB.out hbz); clear hbz))
  go_ret
  exact ⟨rfl, HB.out⟩

set_option maxRecDepth 100000 in
set_option maxHeartbeats 8000000 in
theorem roots_neg (hsan : San) (a : ByteArray) (x : Int) (w : World) (ht : Tabs w) (ha : NumL a.data.toList x) (hx : x < 0) :
    Calls Tryz.prog 13 #[.string a] w fun e w' => e = .returned (.bool true) ∧ Below w.heap.size w w' := by
  have HT := Lib.hid ht
  have HA := Lib.hid ha
  have HB : Hid (Below w.heap.size w w) := Below.refl _ _
  have HS : Hid (∀ w : World, Tabs w → Calls Tryz.prog 18 #[] w fun e w' => e = .returned (.bool true) ∧ Below w.heap.size w w') := hsan
  have HX := Lib.hid hx
  have HG : Hid (sgn x = -1) := sg_neg hx
  obtain ⟨s1, hs1⟩ : ∃ s, txt (x * x) = s := ⟨_, rfl⟩
  obtain ⟨e1, he1⟩ : ∃ e, ern (x * x) = e := ⟨_, rfl⟩
  have H1 := Lib.hid (And.intro hs1 he1)
  have O1 := Lib.hid (he1 ▸ ern_or (x * x))
  clear hs1 he1
  obtain ⟨sm, hsm⟩ : ∃ s, txt ((x.natAbs : Int)) = s := ⟨_, rfl⟩
  have Hm : Hid (txt ((x.natAbs : Int)) = sm ∧ ern ((x.natAbs : Int)) = 0) := ⟨hsm, ern_fit (by rw [Int.natAbs_natCast]; exact ha.2)⟩
  have HNm : Hid (NumL sm.data.toList ((x.natAbs : Int))) := num_of Hm.out.1 Hm.out.2 rfl
  clear hsm
  have H1r : Hid (txt (root (x * x).natAbs : Int) = sm ∧ ern (root (x * x).natAbs : Int) = 0) := by show _ ∧ _; rw [root_sq]; exact Hm.out
  clear ht ha hsan hx
  rcases O1.out with h1 | h1
  all_goals
    (try have HN1 : Hid (NumL s1.data.toList (x * x)) := num_of H1.out.1 H1.out.2 h1)
    have HQ : Hid (0 ≤ x * x) := sq_nonneg x
    subst h1
    go_enter Tryz.func13, Tryz.ntmps13
    go_wp2_with (first
    | (go_at_call 40; (with_reducible refine (integers_ok a ⟨#[48]⟩ ⟨#[48]⟩ x 0 0 _ HA.out num_zero num_zero).mono ?_); rintro e W ⟨rfl, hbz⟩; have HB := Lib.hid (below_then' HB.out hbz); clear hbz)
    | (go_at_call 19; (with_reducible refine (law_mul a a x x s1 _ _ HA.out HA.out H1.out.1 H1.out.2 (HT.out.below HB.out)).mono ?_); rintro e W ⟨rfl, hbz⟩; have HB := Lib.hid (below_then' HB.out hbz); clear hbz)
    | (go_at_call 33; (with_reducible refine (law_root s1 (x * x) sm _ _ HN1.out HQ.out H1r.out.1 H1r.out.2 (HT.out.below HB.out)).mono ?_); rintro e W ⟨rfl, hbz⟩; have HB := Lib.hid (below_then' HB.out hbz); clear hbz)
    | (go_at_call 49; (with_reducible refine (law_abs a x sm _ _ HA.out Hm.out.1 Hm.out.2 (HT.out.below HB.out)).mono ?_); rintro e W ⟨rfl, hbz⟩; have HB := Lib.hid (below_then' HB.out hbz); clear hbz)
    | (go_at_call 33; (with_reducible refine (law_root_neg a x _ HA.out HX.out (HT.out.below HB.out)).mono ?_); rintro e W ⟨rfl, hbz⟩; have HB := Lib.hid (below_then' HB.out hbz); clear hbz)
    | (go_at_call 48; (with_reducible refine (law_sign_at a x (-1) _ HA.out HG.out (HT.out.below HB.out)).mono ?_); rintro e W ⟨rfl, hbz⟩; have HB := Lib.hid (below_then' HB.out hbz); clear hbz)
    | (go_at_call 18; (with_reducible refine (HS.out _ (HT.out.below HB.out)).mono ?_); rintro e W ⟨rfl, hbz⟩; have HB := Lib.hid (below_then' HB.out hbz); clear hbz))
    all_goals
      go_ret
      exact ⟨rfl, HB.out⟩

set_option maxRecDepth 100000 in
set_option maxHeartbeats 8000000 in
theorem roots_ok (hsan : San) (a : ByteArray) (x : Int) (w : World) (ht : Tabs w) (ha : NumL a.data.toList x) (hx : 0 ≤ x) :
    Calls Tryz.prog 13 #[.string a] w fun e w' => e = .returned (.bool true) ∧ Below w.heap.size w w' := by
  have HT := Lib.hid ht
  have HA := Lib.hid ha
  have HB : Hid (Below w.heap.size w w) := Below.refl _ _
  have HS : Hid (∀ w : World, Tabs w → Calls Tryz.prog 18 #[] w fun e w' => e = .returned (.bool true) ∧ Below w.heap.size w w') := hsan
  have HX := Lib.hid hx
  obtain ⟨g, hg⟩ : ∃ g, sgn x = g := ⟨_, rfl⟩
  have hg0 : 0 ≤ g := by rw [← hg]; have := sg_lt (x := x); omega
  have HG := Lib.hid hg
  obtain ⟨r, hr⟩ : ∃ r : Int, (root x.natAbs : Int) = r := ⟨_, rfl⟩
  obtain ⟨f0, f1, f2, f3, f4, f5⟩ := root_facts hx ha.2 hr
  obtain ⟨lo, hlo⟩ : ∃ g, sgn (r * r + -x) = g := ⟨_, rfl⟩
  have hlo0 : lo ≤ 0 := by rw [← hlo]; have := sg_gt (x := r * r + -x); omega
  have HLO := Lib.hid hlo
  have HHI : Hid (sgn (x + -((r + 1) * (r + 1))) = -1) := sg_neg (by omega)
  obtain ⟨s1, hs1⟩ : ∃ s, txt (x * x) = s := ⟨_, rfl⟩
  obtain ⟨e1, he1⟩ : ∃ e, ern (x * x) = e := ⟨_, rfl⟩
  have H1 := Lib.hid (And.intro hs1 he1)
  have O1 := Lib.hid (he1 ▸ ern_or (x * x))
  clear hs1 he1
  obtain ⟨sm, hsm⟩ : ∃ s, txt ((x.natAbs : Int)) = s := ⟨_, rfl⟩
  have Hm : Hid (txt ((x.natAbs : Int)) = sm ∧ ern ((x.natAbs : Int)) = 0) := ⟨hsm, ern_fit (by rw [Int.natAbs_natCast]; exact ha.2)⟩
  have HNm : Hid (NumL sm.data.toList ((x.natAbs : Int))) := num_of Hm.out.1 Hm.out.2 rfl
  clear hsm
  obtain ⟨sr, hsr⟩ : ∃ s, txt (r) = s := ⟨_, rfl⟩
  have Hr : Hid (txt (r) = sr ∧ ern (r) = 0) := ⟨hsr, ern_fit f3⟩
  have HNr : Hid (NumL sr.data.toList (r)) := num_of Hr.out.1 Hr.out.2 rfl
  clear hsr
  obtain ⟨sn, hsn⟩ : ∃ s, txt (r + 1) = s := ⟨_, rfl⟩
  have Hn : Hid (txt (r + 1) = sn ∧ ern (r + 1) = 0) := ⟨hsn, ern_fit f4⟩
  have HNn : Hid (NumL sn.data.toList (r + 1)) := num_of Hn.out.1 Hn.out.2 rfl
  clear hsn
  obtain ⟨sp, hsp⟩ : ∃ s, txt (r * r) = s := ⟨_, rfl⟩
  have Hp : Hid (txt (r * r) = sp ∧ ern (r * r) = 0) := ⟨hsp, ern_fit f5⟩
  have HNp : Hid (NumL sp.data.toList (r * r)) := num_of Hp.out.1 Hp.out.2 rfl
  clear hsp
  obtain ⟨s2, hs2⟩ : ∃ s, txt ((r + 1) * (r + 1)) = s := ⟨_, rfl⟩
  obtain ⟨e2, he2⟩ : ∃ e, ern ((r + 1) * (r + 1)) = e := ⟨_, rfl⟩
  have H2 := Lib.hid (And.intro hs2 he2)
  have O2 := Lib.hid (he2 ▸ ern_or ((r + 1) * (r + 1)))
  clear hs2 he2
  have H1r : Hid (txt (root (x * x).natAbs : Int) = sm ∧ ern (root (x * x).natAbs : Int) = 0) := by show _ ∧ _; rw [root_sq]; exact Hm.out
  have Hrr : Hid (txt (root x.natAbs : Int) = sr ∧ ern (root x.natAbs : Int) = 0) := by show _ ∧ _; rw [hr]; exact Hr.out
  clear ht ha hsan hx hg hlo hr f0 f1 f2 f3 f4 f5
  rcases O1.out with h1 | h1 <;> rcases O2.out with h2 | h2
  all_goals
    (try have HN1 : Hid (NumL s1.data.toList (x * x)) := num_of H1.out.1 H1.out.2 h1)
    (try have HN2 : Hid (NumL s2.data.toList ((r + 1) * (r + 1))) := num_of H2.out.1 H2.out.2 h2)
    have HQ : Hid (0 ≤ x * x) := sq_nonneg x
    subst h1 h2
    go_enter Tryz.func13, Tryz.ntmps13
    go_wp2_with (first
    | (go_at_call 40; (with_reducible refine (integers_ok a ⟨#[48]⟩ ⟨#[48]⟩ x 0 0 _ HA.out num_zero num_zero).mono ?_); rintro e W ⟨rfl, hbz⟩; have HB := Lib.hid (below_then' HB.out hbz); clear hbz)
    | (go_at_call 19; (with_reducible refine (law_mul a a x x s1 _ _ HA.out HA.out H1.out.1 H1.out.2 (HT.out.below HB.out)).mono ?_); rintro e W ⟨rfl, hbz⟩; have HB := Lib.hid (below_then' HB.out hbz); clear hbz)
    | (go_at_call 33; (with_reducible refine (law_root s1 (x * x) sm _ _ HN1.out HQ.out H1r.out.1 H1r.out.2 (HT.out.below HB.out)).mono ?_); rintro e W ⟨rfl, hbz⟩; have HB := Lib.hid (below_then' HB.out hbz); clear hbz)
    | (go_at_call 49; (with_reducible refine (law_abs a x sm _ _ HA.out Hm.out.1 Hm.out.2 (HT.out.below HB.out)).mono ?_); rintro e W ⟨rfl, hbz⟩; have HB := Lib.hid (below_then' HB.out hbz); clear hbz)
    | (go_at_call 33; (with_reducible refine (law_root a x sr _ _ HA.out HX.out Hrr.out.1 Hrr.out.2 (HT.out.below HB.out)).mono ?_); rintro e W ⟨rfl, hbz⟩; have HB := Lib.hid (below_then' HB.out hbz); clear hbz)
    | (go_at_call 48; (with_reducible refine (law_sign_at a x g _ HA.out HG.out (HT.out.below HB.out)).mono ?_); rintro e W ⟨rfl, hbz⟩; have HB := Lib.hid (below_then' HB.out hbz); clear hbz)
    | (go_at_call 42; (with_reducible refine (law_add sr ⟨#[49]⟩ r 1 sn _ _ HNr.out num_one Hn.out.1 Hn.out.2 (HT.out.below HB.out)).mono ?_); rintro e W ⟨rfl, hbz⟩; have HB := Lib.hid (below_then' HB.out hbz); clear hbz)
    | (go_at_call 19; (with_reducible refine (law_mul sr sr r r sp _ _ HNr.out HNr.out Hp.out.1 Hp.out.2 (HT.out.below HB.out)).mono ?_); rintro e W ⟨rfl, hbz⟩; have HB := Lib.hid (below_then' HB.out hbz); clear hbz)
    | (go_at_call 45; (with_reducible refine (law_cmp_at sp a (r * r) x lo _ HNp.out HA.out HLO.out (HT.out.below HB.out)).mono ?_); rintro e W ⟨rfl, hbz⟩; have HB := Lib.hid (below_then' HB.out hbz); clear hbz)
    | (go_at_call 19; (with_reducible refine (law_mul sn sn (r + 1) (r + 1) s2 _ _ HNn.out HNn.out H2.out.1 H2.out.2 (HT.out.below HB.out)).mono ?_); rintro e W ⟨rfl, hbz⟩; have HB := Lib.hid (below_then' HB.out hbz); clear hbz)
    | (go_at_call 45; (with_reducible refine (law_cmp_at a s2 x ((r + 1) * (r + 1)) (-1) _ HA.out HN2.out HHI.out (HT.out.below HB.out)).mono ?_); rintro e W ⟨rfl, hbz⟩; have HB := Lib.hid (below_then' HB.out hbz); clear hbz)
    | (go_at_call 18; (with_reducible refine (HS.out _ (HT.out.below HB.out)).mono ?_); rintro e W ⟨rfl, hbz⟩; have HB := Lib.hid (below_then' HB.out hbz); clear hbz))
    all_goals
      go_ret
      exact ⟨rfl, HB.out⟩

/-- The walk of NumberRoots. -/
theorem roots_walk (hsan : San) (a : ByteArray) (w : World) (ht : Tabs w) :
    Calls Tryz.prog 13 #[.string a] w fun e w' => e = .returned (.bool true) ∧ Below w.heap.size w w' := by
  by_cases h : ∃ x, NumL a.data.toList x
  · obtain ⟨x, ha⟩ := h
    by_cases hx : x < 0
    · exact roots_neg hsan a x w ht ha hx
    · exact roots_ok hsan a x w ht ha (by omega)
  · exact numberroots_bad hsan a w ht fun ⟨x, _, _, hx, _⟩ => h ⟨x, hx⟩

end Go.Proofs.YtbjgpbdkofadiaaGreatDoor
