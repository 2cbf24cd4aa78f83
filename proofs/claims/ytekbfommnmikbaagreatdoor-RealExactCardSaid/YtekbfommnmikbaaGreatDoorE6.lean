/- Texts of this claim, merged: Sticky, RootP, MonoB, RootM, SpA, R4, R5, R6, SpB, Inv, RegV, RegP, SpC, SpF, SpD, SpE, SpI, SpJ, SpG, SpK, SpL, SpM, ProdP, ExP, SpH, FromN, FloorR, WholesL. -/
import Derived.Test.YtekbfommnmikbaaGreatDoorE5
import Derived.Deep.RegionWith
import Derived.Laws.IdiomStrings
import Derived.Deep.CutRange
import Derived.Test.YtekbfommnmikbaaGreatDoorShelfB
import Derived.Deep.DrawnRows
import Derived.RegionTactic
import Derived.Deep.RegionLawGrows
/- Plain mathematics: what is rounded may be cut behind 13 digits, if one more digit says that something was cut off. No program in sight. -/
namespace Go.Proofs.YtekbfommnmikbaaGreatDoor
set_option linter.unusedVariables false
set_option linter.unusedSimpArgs false

/-- Rounded up at a half: something follows. -/
def rup (A k : Nat) : Nat := A / 10 ^ k + (if 10 ^ k ≤ 2 * (A % 10 ^ k) then 1 else 0)
/-- A number that is a bit more than A times 10^F, rounded. -/
def stk (A : Nat) (F : Int) : Option (Nat × Int) :=
  if (nd A : Int) + F < -100 then some (0, 0)
  else if (nd A : Int) + F = -100 then (if 10 ^ nd A ≤ 2 * A then some (100000000000, -111) else some (0, 0))
  else fit (rup A (nd A - 12)) ((nd A : Int) - 12 + F)
theorem even_pow {k : Nat} (h : 0 < k) : 10 ^ k % 2 = 0 := by
  obtain ⟨j, rfl⟩ : ∃ j, k = j + 1 := ⟨k - 1, by omega⟩
  rw [Nat.pow_succ]; omega
theorem half_more {k d r B : Nat} (hk : 0 < k) (hB : 0 < B) (hB2 : B < 10 ^ d) : 10 ^ (k + d) < 2 * (r * 10 ^ d + B) ↔ 10 ^ k ≤ 2 * r := by
  have he := even_pow hk
  rw [Nat.pow_add]
  constructor
  · intro h
    by_cases h2 : 10 ^ k ≤ 2 * r
    · exact h2
    · exfalso
      have h3 : 2 * r + 2 ≤ 10 ^ k := by omega
      have h4 := Nat.mul_le_mul_right (10 ^ d) h3
      rw [Nat.add_mul, Nat.mul_assoc] at h4
      omega
  · intro h
    have h4 := Nat.mul_le_mul_right (10 ^ d) h
    rw [Nat.mul_assoc] at h4
    omega
theorem half_ne {k d r B : Nat} (hk : 0 < k) (hB : 0 < B) (hB2 : B < 10 ^ d) : ¬ 2 * (r * 10 ^ d + B) = 10 ^ (k + d) := by
  intro h
  have := half_more (r := r) hk hB hB2
  by_cases h2 : 10 ^ k ≤ 2 * r
  · have := this.2 h2; omega
  · have he := even_pow hk
    have h3 : 2 * r + 2 ≤ 10 ^ k := by omega
    have h4 := Nat.mul_le_mul_right (10 ^ d) h3
    rw [Nat.pow_add] at h
    rw [Nat.add_mul, Nat.mul_assoc] at h4
    omega
theorem rdiv_up {A B k d : Nat} (hk : 0 < k) (hB : 0 < B) (hB2 : B < 10 ^ d) : rdiv (A * 10 ^ d + B) (k + d) = rup A k := by
  have hp : 0 < 10 ^ d := Nat.pow_pos (by decide)
  have e1 : (A * 10 ^ d + B) / 10 ^ (k + d) = A / 10 ^ k := by
    rw [Nat.pow_add, Nat.mul_comm (10 ^ k), ← Nat.div_div_eq_div_mul, Nat.add_comm, Nat.add_mul_div_right _ _ hp, Nat.div_eq_of_lt hB2, Nat.zero_add]
  have e2 : (A * 10 ^ d + B) % 10 ^ (k + d) = A % 10 ^ k * 10 ^ d + B := by
    have h1 := Nat.div_add_mod (A * 10 ^ d + B) (10 ^ (k + d))
    have h2 := Nat.div_add_mod A (10 ^ k)
    rw [e1] at h1
    have h3 : A * 10 ^ d = 10 ^ (k + d) * (A / 10 ^ k) + A % 10 ^ k * 10 ^ d := by
      rw [Nat.pow_add]
      generalize A / 10 ^ k = q at *
      generalize A % 10 ^ k = r at *
      subst h2
      grind
    omega
  unfold rdiv rup halfUp
  rw [e1, e2]
  congr 1
  by_cases h : 10 ^ k ≤ 2 * (A % 10 ^ k)
  · rw [if_pos h, if_pos (.inl ((half_more hk hB hB2).2 h))]
  · rw [if_neg h, if_neg]
    rintro (h2 | ⟨h2, _⟩)
    · exact h ((half_more hk hB hB2).1 h2)
    · exact half_ne hk hB hB2 h2
theorem nd_more {A B d : Nat} (hA : 0 < A) (hB2 : B < 10 ^ d) : nd (A * 10 ^ d + B) = nd A + d := by
  have a := nd_pos hA
  have b := nd_low hA
  have c := lt_nd A
  obtain ⟨j, hj⟩ : ∃ j, nd A = j + 1 := ⟨nd A - 1, by omega⟩
  rw [hj] at b c ⊢
  rw [show j + 1 - 1 = j from rfl] at b
  rw [show j + 1 + d = (j + d) + 1 by omega]
  refine nd_eq ?_ ?_
  · rw [Nat.pow_add]
    have := Nat.mul_le_mul_right (10 ^ d) b
    omega
  · rw [show j + d + 1 = (j + 1) + d by omega, Nat.pow_add]
    have := Nat.mul_le_mul_right (10 ^ d) (show A + 1 ≤ 10 ^ (j + 1) by omega)
    rw [Nat.add_mul, Nat.one_mul] at this
    omega
theorem rnd_stk {A B d : Nat} (hA : 1000000000000 ≤ A) (hB : 0 < B) (hB2 : B < 10 ^ d) (E : Int) : rnd (A * 10 ^ d + B) E = stk A (E + d) := by
  have hn : 12 < nd A := (nd_gt A 12).2 hA
  have h1 := nd_more (show 0 < A by omega) hB2
  have hm : man12 (A * 10 ^ d + B) = rup A (nd A - 12) := by
    unfold man12
    rw [h1, if_neg (by omega), show nd A + d - 12 = (nd A - 12) + d by omega, rdiv_up (by omega) hB hB2]
  unfold rnd stk
  rw [h1, hm]
  have c1 : (A * 10 ^ d + B = 0 ∨ ((nd A + d : Nat) : Int) + E < -100) ↔ (nd A : Int) + (E + d) < -100 := by
    constructor
    · rintro (h | h) <;> omega
    · intro h; exact .inr (by omega)
  have c2 : ((nd A + d : Nat) : Int) + E = -100 ↔ (nd A : Int) + (E + d) = -100 := by omega
  have c3 : 10 ^ (nd A + d) < 2 * (A * 10 ^ d + B) ↔ 10 ^ nd A ≤ 2 * A := half_more (by omega) hB hB2
  have c4 : ((nd A + d : Nat) : Int) - 12 + E = (nd A : Int) - 12 + (E + d) := by omega
  simp only [c1, c2, c3, c4]
/-- The law. -/
theorem sticky {A B d : Nat} (hA : 1000000000000 ≤ A) (hB2 : B < 10 ^ d) (E : Int) : rnd (A * 10 ^ d + B) E = rnd (10 * A + (if B = 0 then 0 else 1)) (E + d - 1) := by
  by_cases h : B = 0
  · subst h
    have a := rnd_mul A d (E + d)
    have b := rnd_mul A 1 (E + d)
    rw [show E + (d : Int) - (d : Int) = E by omega] at a
    rw [if_pos rfl, Nat.add_zero, Nat.add_zero, a, ← b, Nat.pow_one, Nat.mul_comm]
    rfl
  · rw [if_neg h, rnd_stk hA (by omega) hB2]
    have := rnd_stk (A := A) (B := 1) (d := 1) hA (by decide) (by decide) (E + d - 1)
    rw [Nat.pow_one, Nat.mul_comm] at this
    rw [this]
    congr 1
    omega
/-- The sign of something is kept by a cut. -/
theorem sticky2 {A B d : Nat} (s : Bool) (hA : 1000000000000 ≤ A) (hB2 : B < 10 ^ d) (hd : 0 < d) (E : Int) : rnd (10 * (A * 10 ^ d + B) + (if s then 1 else 0)) E = rnd (10 * A + (if B = 0 ∧ s = false then 0 else 1)) (E + d) := by
  have e1 : 10 * (A * 10 ^ d + B) + (if s then 1 else 0) = A * 10 ^ (d + 1) + (10 * B + (if s then 1 else 0)) := by
    rw [Nat.pow_succ]; generalize 10 ^ d = p; generalize (if s then 1 else 0 : Nat) = x; rw [Nat.mul_add, Nat.add_assoc, Nat.mul_left_comm, Nat.mul_comm 10 p]
  have h2 : 10 * B + (if s then 1 else 0) < 10 ^ (d + 1) := by
    rw [Nat.pow_succ]; split <;> omega
  rw [e1, sticky hA h2 E]
  have e3 : (if 10 * B + (if s then 1 else 0) = 0 then 0 else 1 : Nat) = (if B = 0 ∧ s = false then 0 else 1) := by
    by_cases h : B = 0
    · subst h; cases s <;> rfl
    · rw [if_neg (by omega), if_neg (fun x => h x.1)]
  rw [e3]
  congr 1
  omega
end Go.Proofs.YtekbfommnmikbaaGreatDoor
/- Plain laws of the root: what it is, and that it keeps the order. -/
namespace Go.Proofs.YtekbfommnmikbaaGreatDoor
set_option linter.unusedVariables false
set_option linter.unusedSimpArgs false

/-- The number whose root is taken. -/
def rootJ (xe : Int) : Nat := if xe.tmod 2 = 0 then 16 else 15
theorem take_two {ds : List Int} (k : Nat) : ds.take (2 * (k + 1)) = if 2 * k + 1 < ds.length then ds.take (2 * k) ++ [ds[2 * k]?.getD 0, ds[2 * k + 1]?.getD 0] else ds.take (2 * (k + 1)) := by
  split
  · rename_i h
    rw [show 2 * (k + 1) = 2 * k + 1 + 1 by omega, List.take_succ_eq_append_getElem h, List.take_succ_eq_append_getElem (by omega : 2 * k < ds.length), List.append_assoc, List.getElem?_eq_getElem h, List.getElem?_eq_getElem (by omega : 2 * k < ds.length)]
    rfl
  · rfl
theorem pairs_vd {ds : List Int} (hi : InR 10 ds) {h : Nat} (hl : ds.length = 2 * h) : ∀ k, k ≤ h → ((pairs ds k : Nat) : Int) = vd (ds.take (2 * k))
  | 0, _ => rfl
  | k + 1, hk => by
    have ih := pairs_vd hi hl k (by omega)
    rw [take_two, if_pos (by omega), vd_append, ← ih, pairs, Int.natCast_add, Int.natCast_mul, pairAt_int hi (by omega)]
    simp [vd]
    omega
theorem pairs_more {ds : List Int} {h : Nat} (hl : ds.length = 2 * h) : ∀ j, pairs ds (h + j) = pairs ds h * 100 ^ j
  | 0 => by simp
  | j + 1 => by
    have h0 : pairAt ds (h + j) = 0 := by unfold pairAt; rw [if_neg (by omega)]
    rw [show h + (j + 1) = (h + j) + 1 by omega, pairs, h0, pairs_more hl j, Nat.pow_succ]
    generalize 100 ^ j = p; grind
theorem rootL_facts {M : Nat} {xe : Int} (h : RV M xe) (h0 : 0 < M) : InR 10 (rootL M xe) ∧ pairs (rootL M xe) 14 = M * 10 ^ rootJ xe ∧ ((rootL M xe).length = 12 ∨ (rootL M xe).length = 14) ∧ 2 * rootX M xe = xe - rootJ xe := by
  have h12 : (dg 10 M).reverse.length = 12 := by
    rw [List.length_reverse]
    rcases RV_nd h with h | h
    · exact absurd (nd_pos h0) (by omega)
    · exact h
  have hin := inR_dgR M
  have hv := vd_dg M
  have hdm := Int.mul_tdiv_add_tmod xe 2
  unfold rootX rootJ rootE rootL
  by_cases hp : xe.tmod 2 = 0
  · simp only [if_pos hp]
    refine ⟨hin, ?_, .inl h12, by rw [h12]; omega⟩
    have a := pairs_vd hin (h := 6) (by omega) 6 (Nat.le_refl _)
    rw [List.take_of_length_le (by omega), hv] at a
    have b := pairs_more (ds := (dg 10 M).reverse) (h := 6) (by omega) 8
    rw [b, Int.ofNat_inj.1 a]
  · simp only [if_neg hp]
    have hin2 : InR 10 ([0] ++ (dg 10 M).reverse ++ [0]) := ((InR.cons (by decide) (by decide) (InR.nil _)).append hin).append (InR.cons (by decide) (by decide) (InR.nil _))
    have hl2 : ([0] ++ (dg 10 M).reverse ++ [0]).length = 14 := by rw [List.length_append, List.length_append, h12]; rfl
    have hdm2 := Int.mul_tdiv_add_tmod (xe - 1) 2
    have ht : xe.tmod 2 = 1 ∨ xe.tmod 2 = -1 := by
      have h4 : -2 < xe.tmod 2 ∧ xe.tmod 2 < 2 := by
        rcases Int.le_total 0 xe with h | h
        · obtain ⟨k, rfl⟩ := Int.eq_ofNat_of_zero_le h
          rw [show ((k : Int).tmod 2) = ((k % 2 : Nat) : Int) from rfl]; omega
        · obtain ⟨k, hk⟩ := Int.eq_ofNat_of_zero_le (show 0 ≤ -xe by omega)
          obtain rfl : xe = -(k : Int) := by omega
          rw [Int.neg_tmod, show ((k : Int).tmod 2) = ((k % 2 : Nat) : Int) from rfl]; omega
      omega
    have ht2 : (xe - 1).tmod 2 = 0 := by
      have h4 : -2 < (xe - 1).tmod 2 ∧ (xe - 1).tmod 2 < 2 := by
        rcases Int.le_total 0 (xe - 1) with h | h
        · obtain ⟨k, hk⟩ := Int.eq_ofNat_of_zero_le h
          rw [hk, show ((k : Int).tmod 2) = ((k % 2 : Nat) : Int) from rfl]; omega
        · obtain ⟨k, hk⟩ := Int.eq_ofNat_of_zero_le (show 0 ≤ -(xe - 1) by omega)
          rw [show xe - 1 = -(k : Int) by omega, Int.neg_tmod, show ((k : Int).tmod 2) = ((k % 2 : Nat) : Int) from rfl]; omega
      omega
    refine ⟨hin2, ?_, .inr hl2, by rw [hl2]; omega⟩
    have a := pairs_vd hin2 (h := 7) (by omega) 7 (Nat.le_refl _)
    have e9 : vd ([0] ++ (dg 10 M).reverse ++ [0]) = 10 * (M : Int) := by rw [vd_snoc, List.singleton_append, vd_cons, Int.zero_mul, hv]; omega
    rw [List.take_of_length_le (by omega), e9] at a
    have b := pairs_more (ds := [0] ++ (dg 10 M).reverse ++ [0]) (h := 7) (by omega) 7
    have a2 : pairs ([0] ++ (dg 10 M).reverse ++ [0]) 7 = 10 * M := by omega
    rw [b, a2, show (100 : Nat) ^ 7 = 10 ^ 14 from rfl, Nat.pow_succ 10 14]
    generalize (10 : Nat) ^ 14 = p; grind
/-- The root in one form. -/
theorem rootV_form {M : Nat} {xe : Int} (h : RV M xe) (h0 : 0 < M) : ∃ R S, RootAt (M * 10 ^ rootJ xe) R S ∧ rootV M xe = rnd (10 * R + (if S = 0 then 0 else 1)) (rootX M xe - 1) := by
  obtain ⟨hi, hp, hl, hx⟩ := rootL_facts h h0
  have hr := rs_root hi 14
  rw [hp] at hr
  refine ⟨_, _, hr, ?_⟩
  have hf : vd (firsts (ritem (rootL M xe)) 14) = ((rs (rootL M xe) 14).1 : Int) := ritem_vd 14
  have hm : lastMore (ritem (rootL M xe)) 14 = decide (0 < (rs (rootL M xe) 14).2) := by
    show (ritem (rootL M xe) 13).2 = _
    unfold ritem
    simp only []
    rw [show decide ((2 * (13 : Nat) + 2 : Int) < ((rootL M xe).length : Int)) = false from by rw [decide_eq_false_iff_not]; omega, Bool.or_false]
    apply decide_eq_decide.2
    simp only [Nat.reduceAdd]
    omega
  unfold rootV
  obtain ⟨R, hR⟩ : ∃ R, (rs (rootL M xe) 14).1 = R := ⟨_, rfl⟩
  obtain ⟨S, hS⟩ : ∃ S, (rs (rootL M xe) 14).2 = S := ⟨_, rfl⟩
  rw [hm, hS, hR]
  rw [hR] at hf
  by_cases hs : S = 0
  · rw [if_pos hs, show decide (0 < S) = false from decide_eq_false (by omega)]
    show rnd (vd (firsts (ritem (rootL M xe)) 14)).toNat (rootX M xe) = _
    rw [hf, Int.toNat_natCast, Nat.add_zero]
    have := rnd_mul R 1 (rootX M xe)
    rw [Nat.pow_one, Nat.mul_comm] at this
    exact this.symm
  · rw [if_neg hs, show decide (0 < S) = true from decide_eq_true (by omega)]
    show rnd (vd (firsts (ritem (rootL M xe)) 14 ++ [1])).toNat (rootX M xe - 1) = _
    rw [vd_snoc, hf]
    congr 1
/-- The first digits of the root of more digits. -/
theorem rootAt_cut {P R S R' S' d : Nat} (h : RootAt P R S) (h' : RootAt (P * 100 ^ d) R' S') : ∃ B, R' = R * 10 ^ d + B ∧ B < 10 ^ d ∧ (S = 0 ↔ B = 0 ∧ S' = 0) := by
  have a := rootAt_le h
  have b := rootAt_le h'
  have e : (100 : Nat) ^ d = 10 ^ d * 10 ^ d := by rw [← Nat.mul_pow]
  have hp : 0 < 10 ^ d := Nat.pow_pos (by decide)
  rw [e] at b h'
  have hS := h.1
  have hS' := h'.1
  generalize 10 ^ d = p at *
  have h1 : R * p ≤ R' := by
    rcases Nat.lt_or_ge R' (R * p) with h3 | h3
    · exfalso
      have h4 := Nat.mul_le_mul (show R' + 1 ≤ R * p from h3) (show R' + 1 ≤ R * p from h3)
      have h5 := Nat.mul_le_mul_right (p * p) a.1
      have h6 : R * p * (R * p) = R * R * (p * p) := by grind
      omega
    · exact h3
  have h2 : R' < (R + 1) * p := by
    rcases Nat.lt_or_ge R' ((R + 1) * p) with h3 | h3
    · exact h3
    · exfalso
      have h4 := Nat.mul_le_mul h3 h3
      have h5 := Nat.mul_le_mul_right (p * p) (show P + 1 ≤ (R + 1) * (R + 1) from a.2)
      have h6 : (R + 1) * p * ((R + 1) * p) = (R + 1) * (R + 1) * (p * p) := by grind
      have h7 : 0 < p * p := Nat.mul_pos hp hp
      rw [Nat.add_mul] at h5
      omega
  rw [Nat.add_mul, Nat.one_mul] at h2
  refine ⟨R' - R * p, by omega, by omega, ?_⟩
  constructor
  · intro h0
    subst h0
    have hPP : P = R * R := by omega
    subst hPP
    have h6 : R * R * (p * p) = R * p * (R * p) := by grind
    have h8 : R' = R * p := by
      rcases Nat.lt_or_ge (R * p) R' with h3 | h3
      · have := Nat.mul_le_mul (show R * p + 1 ≤ R' from h3) (show R * p + 1 ≤ R' from h3)
        have h9 : (R * p + 1) * (R * p + 1) = R * p * (R * p) + 2 * (R * p) + 1 := by grind
        omega
      · omega
    subst h8
    omega
  · rintro ⟨h3, h4⟩
    have h5 : R' = R * p := by omega
    subst h5
    have h6 : R * p * (R * p) = R * R * (p * p) := by grind
    have h7 : R * R * (p * p) = P * (p * p) := by omega
    have h8 : 0 < p * p := Nat.mul_pos hp hp
    have := Nat.eq_of_mul_eq_mul_right h8 h7
    omega
end Go.Proofs.YtekbfommnmikbaaGreatDoor
/- Plain laws: the operations on reals keep the order. -/
namespace Go.Proofs.YtekbfommnmikbaaGreatDoor
set_option linter.unusedVariables false
set_option linter.unusedSimpArgs false

/-- A result and its error. -/
def resS : Option (Int × Int) → Value
  | some (a, b) => .tuple #[.agg #[.int .i64 a, .int .i64 b], .int .i64 0]
  | none => .tuple #[.agg #[.int .i64 0, .int .i64 0], .int .i64 3]
theorem resR_sgo (s : Bool) (o : Option (Nat × Int)) : resR s o = resS (sgo s o) := by
  rcases o with _ | ⟨m, x⟩ <;> rfl
theorem resR_rndS (v e : Int) : resR (decide (v < 0)) (rnd v.natAbs e) = resS (rndS v e) := resR_sgo _ _
theorem add_form {xm xe ym ye : Int} (hx : RV xm.natAbs xe) (hy : RV ym.natAbs ye) : addX xm xe ym ye = resS (rndS (xm * 10 ^ (xe + 222).toNat + ym * 10 ^ (ye + 222).toNat) (-222)) := by
  unfold addX doneR
  rw [if_pos ⟨hx, hy⟩, if_pos rfl, ← resR_rndS]
  unfold sumR
  simp only [sumV, Int.add_zero]
theorem mul_form {xm xe ym ye : Int} (hx : RV xm.natAbs xe) (hy : RV ym.natAbs ye) : mulX xm xe ym ye = resS (rndS (xm * ym * 10 ^ (xe + ye + 222).toNat) (-222)) := by
  unfold mulX doneR
  rw [if_pos ⟨hx, hy⟩, if_pos rfl]
  unfold prodR
  have e1 : (xm * ym * 10 ^ (xe + ye + 222).toNat).natAbs = xm.natAbs * ym.natAbs * 10 ^ (xe + ye + 222).toNat := by
    rw [Int.natAbs_mul, Int.natAbs_mul, Int.natAbs_pow]; rfl
  have hp : (0 : Int) < 10 ^ (xe + ye + 222).toNat := Int.pow_pos (by decide)
  unfold rndS
  rw [e1, resR_sgo]
  by_cases h0 : xm.natAbs * ym.natAbs * 10 ^ (xe + ye + 222).toNat = 0
  · rw [h0, rnd_zero]
    unfold sgo sgm
    simp
  · congr 2
    generalize (10 : Int) ^ (xe + ye + 222).toNat = p at *
    have h2 : xm ≠ 0 := fun e => h0 (by subst e; simp)
    have h3 : ym ≠ 0 := fun e => h0 (by subst e; simp)
    by_cases s1 : xm < 0
    · by_cases s2 : ym < 0
      · have := Int.mul_pos (Int.mul_pos_of_neg_of_neg s1 s2) hp
        rw [show decide (xm * ym * p < 0) = false from decide_eq_false (by omega), decide_eq_true s1, decide_eq_true s2]; rfl
      · have := Int.mul_neg_of_neg_of_pos (Int.mul_neg_of_neg_of_pos s1 (show 0 < ym by omega)) hp
        rw [decide_eq_true this, decide_eq_true s1, decide_eq_false s2]; rfl
    · by_cases s2 : ym < 0
      · have := Int.mul_neg_of_neg_of_pos (Int.mul_neg_of_pos_of_neg (show 0 < xm by omega) s2) hp
        rw [decide_eq_true this, decide_eq_false s1, decide_eq_true s2]; rfl
      · have := Int.mul_pos (Int.mul_pos (show 0 < xm by omega) (show 0 < ym by omega)) hp
        rw [show decide (xm * ym * p < 0) = false from decide_eq_false (by omega), decide_eq_false s1, decide_eq_false s2]; rfl
theorem pow_toNat_add {a b : Int} (ha : 0 ≤ a) (hb : 0 ≤ b) : (10 : Int) ^ (a + b).toNat = 10 ^ a.toNat * 10 ^ b.toNat := by
  rw [← Int.pow_add]; congr 1; omega
theorem RV_exp {m : Nat} {e : Int} (h : RV m e) : -111 ≤ e ∧ e ≤ 88 := by rcases h with ⟨_, rfl⟩ | ⟨_, _, h1, h2⟩ <;> omega
theorem mul_at {xm xe zm ze : Int} (hx : RV xm.natAbs xe) (hz : RV zm.natAbs ze) : xm * zm * 10 ^ (xe + ze + 222).toNat = vR xm xe * vR zm ze := by
  have a := RV_exp hx; have b := RV_exp hz
  unfold vR
  rw [show xe + ze + 222 = (xe + 111) + (ze + 111) by omega, pow_toNat_add (by omega) (by omega)]
  grind
end Go.Proofs.YtekbfommnmikbaaGreatDoor
/- Plain laws: the root keeps the order; the floor. -/
namespace Go.Proofs.YtekbfommnmikbaaGreatDoor
set_option linter.unusedVariables false
set_option linter.unusedSimpArgs false

theorem root_size {M : Nat} {xe : Int} (h : RV M xe) (h0 : 0 < M) {R S : Nat} (hr : RootAt (M * 10 ^ rootJ xe) R S) : 10000000000000 ≤ R ∧ R < 100000000000000 := by
  have hM : 100000000000 ≤ M ∧ M < 1000000000000 := by unfold RV at h; omega
  have a := rootAt_le hr
  have hj : rootJ xe = 16 ∨ rootJ xe = 15 := by unfold rootJ; split <;> simp
  have b : 100000000000000000000000000 ≤ M * 10 ^ rootJ xe ∧ M * 10 ^ rootJ xe < 10000000000000000000000000000 := by
    rcases hj with hj | hj <;> rw [hj] <;> omega
  constructor
  · rcases Nat.lt_or_ge R 10000000000000 with h1 | h1
    · have := Nat.mul_le_mul (show R + 1 ≤ 10000000000000 from h1) (show R + 1 ≤ 10000000000000 from h1)
      omega
    · exact h1
  · rcases Nat.lt_or_ge R 100000000000000 with h1 | h1
    · exact h1
    · have := Nat.mul_le_mul h1 h1
      omega
end Go.Proofs.YtekbfommnmikbaaGreatDoor
/- The reference of layer 2: the places of reals. -/
namespace Go.Proofs.YtekbfommnmikbaaGreatDoor
set_option linter.unusedVariables false
set_option linter.unusedSimpArgs false
open Go.RowKit Go.Shelf Go.Proofs
attribute [local go_sem ↓] Go.wp_at_zero Go.wp_at_succ

end Go.Proofs.YtekbfommnmikbaaGreatDoor
/- Bases; the functions at valid integers. -/
namespace Go.Proofs.YtekbfommnmikbaaGreatDoor
set_option linter.unusedVariables false
set_option linter.unusedSimpArgs false
open Go.RowKit
attribute [local go_sem] max2_int min2_int max_two min_two

/-- What stands while two results are stored. -/
structure QS (w : World) (u v : Value) (mq mr : Nat) (W : World) : Prop where
  s20 : ∃ z, W.cell? ⟨w.heap.size + 1 + 1, 0, none⟩ = some z
  s21 : ∃ z, W.cell? ⟨w.heap.size + 1 + 1, 1, none⟩ = some z
  s30 : ∃ z, W.cell? ⟨w.heap.size + 1 + 1 + 1, 0, none⟩ = some z
  s31 : ∃ z, W.cell? ⟨w.heap.size + 1 + 1 + 1, 1, none⟩ = some z
  g20 : W.frozen? ⟨w.heap.size + 1 + 1, 0, none⟩ = false
  g21 : W.frozen? ⟨w.heap.size + 1 + 1, 1, none⟩ = false
  g30 : W.frozen? ⟨w.heap.size + 1 + 1 + 1, 0, none⟩ = false
  g31 : W.frozen? ⟨w.heap.size + 1 + 1 + 1, 1, none⟩ = false
  hu : Dg 1000000000 W u mq
  hv : Dg 1000000000 W v mr
  fu : FromB (w.heap.size + 4) u
  fv : FromB (w.heap.size + 4) v
  bel : Bel w.heap.size w W
theorem QS.call {w : World} {u v : Value} {mq mr : Nat} {W W' : World} (h : QS w u v mq mr W) (hb : Below W.heap.size W W') : QS w u v mq mr W' := by
  obtain ⟨⟨a, ha⟩, ⟨b, hb'⟩, ⟨c, hc⟩, ⟨d, hd⟩, g1, g2, g3, g4, hu, hv, fu, fv, hbel⟩ := h
  exact ⟨⟨_, keep_cell hb ha⟩, ⟨_, keep_cell hb hb'⟩, ⟨_, keep_cell hb hc⟩, ⟨_, keep_cell hb hd⟩, keep_free' hb ha g1, keep_free' hb hb' g2, keep_free' hb hc g3, keep_free' hb hd g4, hu.below hb, hv.below hb, fu, fv, hbel.call hb⟩
theorem QS.drew {w : World} {u v : Value} {mq mr : Nat} {W : World} (h : QS w u v mq mr W) : QS w u v mq mr W.drew := h.call (Below.refl _ _).drew
theorem some_set' {w : World} {a b : Addr} {v : Value} (h : ∃ z, w.cell? b = some z) : ∃ z, (w.setCell a v).cell? b = some z := by
  obtain ⟨z, hz⟩ := h
  by_cases e : a = b
  · subst e; exact ⟨_, set_same v hz⟩
  · exact ⟨_, set_other v e hz⟩
theorem QS.set {w : World} {u v : Value} {mq mr : Nat} {W : World} (h : QS w u v mq mr W) (k i : Nat) (hk : w.heap.size ≤ k ∧ k < w.heap.size + 4) (x : Value) : QS w u v mq mr (W.setCell ⟨k, i, none⟩ x) := by
  obtain ⟨ha, hb', hc, hd, g1, g2, g3, g4, hu, hv, fu, fv, hbel⟩ := h
  exact ⟨some_set' ha, some_set' hb', some_set' hc, some_set' hd, by simpa using g1, by simpa using g2, by simpa using g3, by simpa using g4, hu.set fu hk.2 _, hv.set fv hk.2 _, fu, fv, hbel.set _ hk.1⟩
end Go.Proofs.YtekbfommnmikbaaGreatDoor

namespace Go.Proofs.YtekbfommnmikbaaGreatDoor
set_option linter.unusedVariables false
set_option linter.unusedSimpArgs false
open Go.RowKit
attribute [local go_sem] max2_int min2_int max_two min_two

theorem WhN.parts {k : Nat} {w : World} {b : Bool} {p : Value} {z : Int} (h : WhN k w (.agg #[.bool b, p]) z) : Dg 1000000000 w p z.natAbs ∧ FromB k p ∧ b = decide (z < 0) := by
  obtain ⟨p', e, h1, h2⟩ := h
  simp only [Value.agg.injEq, Array.mk.injEq, List.cons.injEq, Value.bool.injEq, and_true] at e
  obtain ⟨rfl, rfl⟩ := e
  exact ⟨h1, h2, rfl⟩

/-- What stands while floor's sums are made. -/
structure FS (w : World) (a b c : Value) (x y z : Int) (W : World) : Prop where
  s20 : ∃ z, W.cell? ⟨w.heap.size + 1 + 1, 0, none⟩ = some z
  s21 : ∃ z, W.cell? ⟨w.heap.size + 1 + 1, 1, none⟩ = some z
  s30 : ∃ z, W.cell? ⟨w.heap.size + 1 + 1 + 1, 0, none⟩ = some z
  s31 : ∃ z, W.cell? ⟨w.heap.size + 1 + 1 + 1, 1, none⟩ = some z
  g20 : W.frozen? ⟨w.heap.size + 1 + 1, 0, none⟩ = false
  g21 : W.frozen? ⟨w.heap.size + 1 + 1, 1, none⟩ = false
  g30 : W.frozen? ⟨w.heap.size + 1 + 1 + 1, 0, none⟩ = false
  g31 : W.frozen? ⟨w.heap.size + 1 + 1 + 1, 1, none⟩ = false
  ha : Wh W a x
  hb : Wh W b y
  hc : Wh W c z
  ka : WhN (w.heap.size + 4) W a x
  kb : WhN (w.heap.size + 4) W b y
  old : Wh w c z
  bel : Bel w.heap.size w W
theorem FS.call {w : World} {a b c : Value} {x y z : Int} {W W' : World} (h : FS w a b c x y z W) (hb : Below W.heap.size W W') : FS w a b c x y z W' := by
  obtain ⟨⟨_, ha⟩, ⟨_, hb'⟩, ⟨_, hc⟩, ⟨_, hd⟩, g1, g2, g3, g4, h1, h2, h3, k1, k2, ho, hbel⟩ := h
  exact ⟨⟨_, keep_cell hb ha⟩, ⟨_, keep_cell hb hb'⟩, ⟨_, keep_cell hb hc⟩, ⟨_, keep_cell hb hd⟩, keep_free' hb ha g1, keep_free' hb hb' g2, keep_free' hb hc g3, keep_free' hb hd g4, h1.below hb, h2.below hb, h3.below hb, k1.below hb, k2.below hb, ho, hbel.call hb⟩
theorem FS.drew {w : World} {a b c : Value} {x y z : Int} {W : World} (h : FS w a b c x y z W) : FS w a b c x y z W.drew := h.call (Below.refl _ _).drew
theorem FS.alloc {w : World} {a b c : Value} {x y z : Int} {W : World} (h : FS w a b c x y z W) (o : Obj) : FS w a b c x y z (W.alloc o) := h.call ((Below.refl _ _).alloc (Nat.le_refl _) _)
theorem FS.set {w : World} {a b c : Value} {x y z : Int} {W : World} (h : FS w a b c x y z W) (k i : Nat) (hk : w.heap.size ≤ k ∧ k < w.heap.size + 4) (v : Value) : FS w a b c x y z (W.setCell ⟨k, i, none⟩ v) := by
  obtain ⟨ha, hb', hc, hd, g1, g2, g3, g4, h1, h2, h3, k1, k2, ho, hbel⟩ := h
  have hbel' := hbel.set (a := ⟨k, i, none⟩) v hk.1
  exact ⟨some_set' ha, some_set' hb', some_set' hc, some_set' hd, by simpa using g1, by simpa using g2, by simpa using g3, by simpa using g4, (k1.set hk.2 _).wh, (k2.set hk.2 _).wh, ho.below hbel'.to, k1.set hk.2 _, k2.set hk.2 _, ho, hbel'⟩
end Go.Proofs.YtekbfommnmikbaaGreatDoor

namespace Go.Proofs.YtekbfommnmikbaaGreatDoor
set_option linter.unusedVariables false
set_option linter.unusedSimpArgs false
open Go.RowKit Go.Shelf Go.Proofs

end Go.Proofs.YtekbfommnmikbaaGreatDoor

namespace Go.Proofs.YtekbfommnmikbaaGreatDoor
set_option linter.unusedVariables false
set_option linter.unusedSimpArgs false
open Go.RowKit Go.Shelf Go.Proofs

end Go.Proofs.YtekbfommnmikbaaGreatDoor

namespace Go.Proofs.YtekbfommnmikbaaGreatDoor
set_option linter.unusedVariables false
set_option linter.unusedSimpArgs false

end Go.Proofs.YtekbfommnmikbaaGreatDoor

namespace Go.Proofs.YtekbfommnmikbaaGreatDoor
set_option linter.unusedVariables false
set_option linter.unusedSimpArgs false
open Go.RowKit Go.Shelf Go.Proofs

end Go.Proofs.YtekbfommnmikbaaGreatDoor

namespace Go.Proofs.YtekbfommnmikbaaGreatDoor
set_option linter.unusedVariables false
set_option linter.unusedSimpArgs false
open Go.RowKit Go.Shelf Go.Proofs

end Go.Proofs.YtekbfommnmikbaaGreatDoor

namespace Go.Proofs.YtekbfommnmikbaaGreatDoor
set_option linter.unusedVariables false
set_option linter.unusedSimpArgs false
open Go.RowKit Go.Shelf Go.Proofs Go.Sort

end Go.Proofs.YtekbfommnmikbaaGreatDoor

namespace Go.Proofs.YtekbfommnmikbaaGreatDoor
set_option linter.unusedVariables false
set_option linter.unusedSimpArgs false
open Go.RowKit Go.Shelf Go.Proofs

end Go.Proofs.YtekbfommnmikbaaGreatDoor

namespace Go.Proofs.YtekbfommnmikbaaGreatDoor
set_option linter.unusedVariables false
set_option linter.unusedSimpArgs false
open Go.RowKit Go.Shelf Go.Proofs

section
variable (S T : ByteArray) (x y : Int) (s : ByteArray) (k : Int) (w : World)
end

end Go.Proofs.YtekbfommnmikbaaGreatDoor

namespace Go.Proofs.YtekbfommnmikbaaGreatDoor
set_option linter.unusedVariables false
set_option linter.unusedSimpArgs false
open Go.RowKit Go.Shelf Go.Proofs

end Go.Proofs.YtekbfommnmikbaaGreatDoor

namespace Go.Proofs.YtekbfommnmikbaaGreatDoor
set_option linter.unusedVariables false
set_option linter.unusedSimpArgs false
open Go.RowKit Go.Shelf Go.Proofs

def tx (z : Int) : ByteArray := ⟨(Lib.itoa z).toArray⟩
/-- What a division makes. -/
def divOut (Q R y : Int) : Out := if y = 0 then .err 5 else if Q.natAbs < 10 ^ 200 then .ok (.agg #[.string (tx Q), .string (tx R)]) else .err 3

end Go.Proofs.YtekbfommnmikbaaGreatDoor

namespace Go.Proofs.YtekbfommnmikbaaGreatDoor
set_option linter.unusedVariables false
set_option linter.unusedSimpArgs false
open Go.RowKit Go.Shelf Go.Proofs

/-- Three results out of what a division makes. -/
def three : Out → Value
  | .ok (.agg #[a, b]) => .tuple #[a, b, .int .i64 0]
  | .ok v => v
  | .err k => .tuple #[.string ⟨#[]⟩, .string ⟨#[]⟩, .int .i64 k]
/-- What a division of two strings returns. -/
def DivA (S T : ByteArray) (Q R : Int → Int → Int) (w : World) (e : Ending) (w' : World) : Prop :=
  ((∃ x y, NumL S.data.toList x ∧ NumL T.data.toList y ∧ e = .returned (three (divOut (Q x y) (R x y) y))) ∨ ((¬ ((∃ x, NumL S.data.toList x) ∧ ∃ y, NumL T.data.toList y)) ∧ e = .returned (.tuple #[.string ⟨#[]⟩, .string ⟨#[]⟩, .int .i64 1]))) ∧ Below w.heap.size w w'
theorem DivA.more {S T : ByteArray} {Q R : Int → Int → Int} {w w1 w2 : World} {e : Ending} (h : DivA S T Q R w e w1) (hb : Below w1.heap.size w1 w2) : DivA S T Q R w e w2 := ⟨h.1, below_then' h.2 hb⟩
end Go.Proofs.YtekbfommnmikbaaGreatDoor

namespace Go.Proofs.YtekbfommnmikbaaGreatDoor
set_option linter.unusedVariables false
set_option linter.unusedSimpArgs false
open Go.RowKit Go.Shelf Go.Proofs

section
variable (S T : ByteArray) (x y n : Int) (s t : ByteArray) (k : Int) (w : World)
end
end Go.Proofs.YtekbfommnmikbaaGreatDoor

namespace Go.Proofs.YtekbfommnmikbaaGreatDoor
set_option linter.unusedVariables false
set_option linter.unusedSimpArgs false
open Go.RowKit Go.Shelf Go.Proofs

section
variable (S T : ByteArray) (x y g : Int) (w : World)
end
end Go.Proofs.YtekbfommnmikbaaGreatDoor
/- The reference of layer 1: natural numbers, integers. -/
namespace Go.Proofs.YtekbfommnmikbaaGreatDoor
set_option linter.unusedVariables false
set_option linter.unusedSimpArgs false
open Go.RowKit

attribute [local go_sem] max2_int min2_int max_two min_two
end Go.Proofs.YtekbfommnmikbaaGreatDoor

namespace Go.Proofs.YtekbfommnmikbaaGreatDoor
set_option linter.unusedVariables false
set_option linter.unusedSimpArgs false
open Go.RowKit

end Go.Proofs.YtekbfommnmikbaaGreatDoor

namespace Go.Proofs.YtekbfommnmikbaaGreatDoor
set_option linter.unusedVariables false
set_option linter.unusedSimpArgs false
open Go.RowKit

/-- v is the reference's integer z. -/
def Ri (w : World) (v : Value) (z : Int) : Prop := ∃ p, v = .agg #[p, .bool (decide (z < 0))] ∧ Dg 10 w p z.natAbs
theorem Ri.below {w w' : World} {v : Value} {z : Int} (h : Ri w v z) (hb : Below w.heap.size w w') : Ri w' v z := by
  obtain ⟨p, e, hp⟩ := h
  exact ⟨p, e, hp.below hb⟩
end Go.Proofs.YtekbfommnmikbaaGreatDoor

namespace Go.Proofs.YtekbfommnmikbaaGreatDoor
set_option linter.unusedVariables false
set_option linter.unusedSimpArgs false
open Go.RowKit

end Go.Proofs.YtekbfommnmikbaaGreatDoor

namespace Go.Proofs.YtekbfommnmikbaaGreatDoor
set_option linter.unusedVariables false
set_option linter.unusedSimpArgs false
open Go.RowKit
attribute [local go_sem ↓] Go.wp_at_zero Go.wp_at_succ

/-- No whole number. -/
def NoI (v : Value) : Prop := ∀ kd z, v ≠ .int kd z
theorem box_put {w : World} {g : Nat} {cs : Array Value} {t : TypeId} {fz : Nat × Nat} (h : w.heap[g]? = some (.cells cs t fz)) (i : Nat) (v : Value) :
    (w.setCell ⟨g, i, none⟩ v).heap[g]? = some (.cells (cs.setIfInBounds i v) t fz) := by
  obtain ⟨hlt, h'⟩ := Array.getElem?_eq_some_iff.1 h
  show (w.heap.modify g _)[g]? = _
  rw [Array.getElem?_eq_getElem (by simpa using hlt), Array.getElem_modify_self, h']
  rfl
end Go.Proofs.YtekbfommnmikbaaGreatDoor

namespace Go.Proofs.YtekbfommnmikbaaGreatDoor
set_option linter.unusedVariables false
set_option linter.unusedSimpArgs false
open Go.RowKit
attribute [local go_sem ↓] Go.wp_at_zero Go.wp_at_succ

end Go.Proofs.YtekbfommnmikbaaGreatDoor

namespace Go.Proofs.YtekbfommnmikbaaGreatDoor
set_option linter.unusedVariables false
set_option linter.unusedSimpArgs false
open Go.RowKit Go.Shelf

end Go.Proofs.YtekbfommnmikbaaGreatDoor

namespace Go.Proofs.YtekbfommnmikbaaGreatDoor
set_option linter.unusedVariables false
set_option linter.unusedSimpArgs false
open Go.RowKit Go.Shelf

/-- A digit's value. -/
def dval (b : UInt8) : Int := (b.toNat : Int) - 48
theorem val_rev : ∀ {d : List UInt8}, (∀ b ∈ d, isDig b) → val 10 (d.map dval).reverse = (decVal d : Int)
  | [], _ => rfl
  | b :: t, h => by
    have hb := h b (List.mem_cons_self ..)
    have h1 := hb.1
    have e : decVal [b] = b.toNat - 48 := by simp [decVal]
    rw [List.map_cons, List.reverse_cons, val_snoc, val_rev (fun c hc => h c (List.mem_cons_of_mem _ hc)), show b :: t = [b] ++ t from rfl, decVal_append, e]
    simp only [List.length_reverse, List.length_map, dval]
    rw [Int.natCast_add, Int.natCast_mul, Int.natCast_pow, Int.natCast_sub h1, Int.mul_comm, Int.add_comm]
    rfl
theorem inR_rev {d : List UInt8} (h : ∀ b ∈ d, isDig b) : InR 10 (d.map dval).reverse := by
  intro x hx
  rw [List.mem_reverse, List.mem_map] at hx
  obtain ⟨b, hb, rfl⟩ := hx
  have h1 := (h b hb).1
  have h2 := (h b hb).2
  unfold dval
  constructor <;> omega
theorem at_list (S : ByteArray) (a : UInt8) (t : List UInt8) (h : S.data.toList = a :: t) : ∃ h0 : 0 < S.size, S[0] = a := by
  have hl : 0 < S.data.toList.length := by rw [h]; simp
  refine ⟨by rw [Array.length_toList] at hl; exact hl, ?_⟩
  have : S.data.toList[0]'hl = a := by simp [h]
  rw [← this]; rfl
theorem text_pos {S : ByteArray} {z : Int} (h : NumL S.data.toList z) (hz : ¬ z < 0) : (∃ h0 : 0 < S.size, S[0] ≠ 45) ∧ S.data.toList = Lib.decDigits z.natAbs := by
  have e : S.data.toList = Lib.decDigits z.natAbs := by rw [h.1, Lib.itoa, if_neg hz, show z.toNat = z.natAbs by omega]
  refine ⟨?_, e⟩
  cases hl : Lib.decDigits z.natAbs with
  | nil => exact absurd hl (decDigits_ne _)
  | cons a t =>
    obtain ⟨h0, ha⟩ := at_list _ _ _ (e.trans hl)
    refine ⟨h0, ?_⟩
    rw [ha]
    intro e
    have := (decDigits_dig z.natAbs a (by rw [hl]; simp)).1
    rw [e] at this
    simp at this
/-- The digits of D. -/
structure DecT (D : ByteArray) (n : Nat) : Prop where
  l_ : D.data.toList = Lib.decDigits n
  le : D.size ≤ 200
  dg : ∀ j (h : j < D.size), isDig D[j]
theorem decT {D : ByteArray} {n : Nat} (h : D.data.toList = Lib.decDigits n) (hn : n < 10 ^ 200) : DecT D n := by
  refine ⟨h, ?_, fun j hj => ?_⟩
  · have := (len200 n).2 hn
    rw [← h, Array.length_toList] at this
    exact this
  · exact decDigits_dig n _ (by rw [← h]; exact Array.getElem_mem_toList (xs := D.data) (i := j) hj)
theorem grown_put {w w1 : World} {v : Value} {B : Nat} {o : Obj} (hg : w.grownBy w1 v.ownBlock) (hb : w.heap[B]? = some o) (hv : v.ownBlock ≠ some B) : w1.heap[B]? = some o := by
  rw [hg.block B (Array.getElem?_eq_some_iff.1 hb).1 (Ne.symm hv)]; exact hb
theorem own_ne {w : World} {base : Nat} {e : TypeId} {size : Nat} {v : Value} {n : Nat} {xs : List Value} (h : w.ownsRow base e size v n xs) {B : Nat} (hB : B < base) : v.ownBlock ≠ some B := fun e => by
  have := (h.lt _ e).1
  omega
end Go.Proofs.YtekbfommnmikbaaGreatDoor
/- The reference of layer 1: texts, division, roots. -/
namespace Go.Proofs.YtekbfommnmikbaaGreatDoor
set_option linter.unusedVariables false
set_option linter.unusedSimpArgs false
open Go.RowKit Go.Shelf
attribute [local go_sem ↓] Go.wp_at_zero Go.wp_at_succ

end Go.Proofs.YtekbfommnmikbaaGreatDoor

namespace Go.Proofs.YtekbfommnmikbaaGreatDoor
set_option linter.unusedVariables false
set_option linter.unusedSimpArgs false
open Go.RowKit Go.Shelf

end Go.Proofs.YtekbfommnmikbaaGreatDoor

namespace Go.Proofs.YtekbfommnmikbaaGreatDoor
set_option linter.unusedVariables false
set_option linter.unusedSimpArgs false
open Go.RowKit Go.Shelf
attribute [local go_sem] max2_int min2_int max_two min_two

end Go.Proofs.YtekbfommnmikbaaGreatDoor

namespace Go.Proofs.YtekbfommnmikbaaGreatDoor
set_option linter.unusedVariables false
set_option linter.unusedSimpArgs false
open Go.RowKit

end Go.Proofs.YtekbfommnmikbaaGreatDoor

namespace Go.Proofs.YtekbfommnmikbaaGreatDoor
set_option linter.unusedVariables false
set_option linter.unusedSimpArgs false
open Go.RowKit Go.Shelf

/-- A pair of the reference's integers. -/
def Pr (w : World) (v : Value) (x y : Int) : Prop := ∃ p q b1 b2, v = .agg #[p, .bool b1, q, .bool b2] ∧ Ri w (.agg #[p, .bool b1]) x ∧ Ri w (.agg #[q, .bool b2]) y
theorem Pr.parts {w : World} {p q : Value} {b1 b2 : Bool} {x y : Int} (h : Pr w (.agg #[p, .bool b1, q, .bool b2]) x y) : Ri w (.agg #[p, .bool b1]) x ∧ Ri w (.agg #[q, .bool b2]) y := by
  obtain ⟨p', q', c1, c2, e, hp, hq⟩ := h
  simp at e
  obtain ⟨rfl, rfl, rfl, rfl⟩ := e
  exact ⟨hp, hq⟩
theorem Pr.below {w w' : World} {v : Value} {x y : Int} (h : Pr w v x y) (hb : Below w.heap.size w w') : Pr w' v x y := by
  obtain ⟨p, q, b1, b2, rfl, hp, hq⟩ := h
  exact ⟨p, q, b1, b2, rfl, hp.below hb, hq.below hb⟩
end Go.Proofs.YtekbfommnmikbaaGreatDoor

namespace Go.Proofs.YtekbfommnmikbaaGreatDoor
set_option linter.unusedVariables false
set_option linter.unusedSimpArgs false
open Go.RowKit Go.Shelf
attribute [local go_sem ↓] Go.wp_at_zero Go.wp_at_succ

/-- All that lay in V lies there still, but for block g. -/
structure BX (V : World) (g : Nat) (w : World) : Prop where
  size_ : V.heap.size ≤ w.heap.size
  same : ∀ b, b < V.heap.size → b ≠ g → w.heap[b]? = V.heap[b]?
theorem BX.refl (V : World) (g : Nat) : BX V g V := ⟨Nat.le_refl _, fun _ _ _ => rfl⟩
theorem BX.call {V w w' : World} {g : Nat} (h : BX V g w) (hb : Below w.heap.size w w') : BX V g w' :=
  ⟨Nat.le_trans h.size_ hb.size, fun b h1 h2 => (hb.block b (Nat.lt_of_lt_of_le h1 h.size_)).trans (h.same b h1 h2)⟩
theorem BX.drew {V w : World} {g : Nat} (h : BX V g w) : BX V g w.drew := h.call (Below.refl _ _).drew
theorem BX.alloc {V w : World} {g : Nat} (h : BX V g w) (o : Obj) : BX V g (w.alloc o) := h.call ((Below.refl _ _).alloc (Nat.le_refl _) o)
theorem BX.set {V w : World} {g : Nat} (h : BX V g w) (i : Nat) (v : Value) : BX V g (w.setCell ⟨g, i, none⟩ v) :=
  ⟨by simpa using h.size_, fun b h1 h2 => (Below.heap_setCell _ _ _ _ h2).trans (h.same b h1 h2)⟩
/-- A box of four cells, none of them a number. -/
def Bx4 (w : World) (g : Nat) : Prop := ∃ t x0 x1 x2 x3, w.heap[g]? = some (.cells #[x0, x1, x2, x3] t (0, 0)) ∧ NoI x0 ∧ NoI x1 ∧ NoI x2 ∧ NoI x3
theorem Bx4.call {w w' : World} {g : Nat} (h : Bx4 w g) (hb : Below w.heap.size w w') : Bx4 w' g := by
  obtain ⟨t, x0, x1, x2, x3, h, hs⟩ := h
  exact ⟨t, x0, x1, x2, x3, heap_below h hb, hs⟩
theorem Bx4.drew {w : World} {g : Nat} (h : Bx4 w g) : Bx4 w.drew g := h.call (Below.refl _ _).drew
theorem Bx4.alloc {w : World} {g : Nat} (h : Bx4 w g) (o : Obj) : Bx4 (w.alloc o) g := h.call ((Below.refl _ _).alloc (Nat.le_refl _) o)
theorem Bx4.lt {w : World} {g : Nat} (h : Bx4 w g) : g < w.heap.size := by
  obtain ⟨t, x0, x1, x2, x3, h, hs⟩ := h
  exact (Array.getElem?_eq_some_iff.1 h).1
theorem Bx4.free {w : World} {g : Nat} (h : Bx4 w g) (i : Nat) : w.frozen? ⟨g, i, none⟩ = false := by
  obtain ⟨t, x0, x1, x2, x3, h, hs⟩ := h
  exact free_of_heap h i
theorem Bx4.cells {w : World} {g : Nat} (h : Bx4 w g) : ∃ x0 x1 x2 x3, w.cell? ⟨g, 0, none⟩ = some x0 ∧ w.cell? ⟨g, 1, none⟩ = some x1 ∧ w.cell? ⟨g, 2, none⟩ = some x2 ∧ w.cell? ⟨g, 3, none⟩ = some x3 := by
  obtain ⟨t, x0, x1, x2, x3, h, hs⟩ := h
  exact ⟨x0, x1, x2, x3, cell_of_heap h 0, cell_of_heap h 1, cell_of_heap h 2, cell_of_heap h 3⟩
theorem Bx4.set {w : World} {g : Nat} (h : Bx4 w g) (i : Nat) {v : Value} (hv : NoI v) : Bx4 (w.setCell ⟨g, i, none⟩ v) g := by
  obtain ⟨t, x0, x1, x2, x3, h, n0, n1, n2, n3⟩ := h
  have h1 := box_put h i v
  match i with
  | 0 => exact ⟨t, v, x1, x2, x3, by simpa using h1, hv, n1, n2, n3⟩
  | 1 => exact ⟨t, x0, v, x2, x3, by simpa using h1, n0, hv, n2, n3⟩
  | 2 => exact ⟨t, x0, x1, v, x3, by simpa using h1, n0, n1, hv, n3⟩
  | 3 => exact ⟨t, x0, x1, x2, v, by simpa using h1, n0, n1, n2, hv⟩
  | i + 4 => exact ⟨t, x0, x1, x2, x3, by rw [h1]; simp [Array.setIfInBounds], n0, n1, n2, n3⟩
end Go.Proofs.YtekbfommnmikbaaGreatDoor

namespace Go.Proofs.YtekbfommnmikbaaGreatDoor
set_option linter.unusedVariables false
set_option linter.unusedSimpArgs false
open Go.RowKit Go.Shelf

end Go.Proofs.YtekbfommnmikbaaGreatDoor

namespace Go.Proofs.YtekbfommnmikbaaGreatDoor
set_option linter.unusedVariables false
set_option linter.unusedSimpArgs false
open Go.RowKit Go.Shelf

end Go.Proofs.YtekbfommnmikbaaGreatDoor
/- The reference of layer 2: Valid; the statements' helpers. -/
namespace Go.Proofs.YtekbfommnmikbaaGreatDoor
set_option linter.unusedVariables false
set_option linter.unusedSimpArgs false
open Go.RowKit Go.Shelf Go.Proofs
attribute [local go_sem ↓] Go.wp_at_zero Go.wp_at_succ

end Go.Proofs.YtekbfommnmikbaaGreatDoor
/- A region that draws its order, by what holds whatever has come up: one look at each operation. -/
namespace Go.Proofs.YtekbfommnmikbaaGreatDoor
set_option linter.unusedVariables false
set_option linter.unusedSimpArgs false

section
variable {P : Program} {ops : Array Oper} {Q : Exit → Act → World → Prop}

end
end Go.Proofs.YtekbfommnmikbaaGreatDoor
/- A region that draws its order, whose operations have values that are known ahead, and leave what was there. -/
namespace Go.Proofs.YtekbfommnmikbaaGreatDoor
set_option linter.unusedVariables false
set_option linter.unusedSimpArgs false
open Go.RowKit

end Go.Proofs.YtekbfommnmikbaaGreatDoor
/- A region that draws its order, whose operations have values of which something is known, and leave what was there; at its end there may be a store. -/
namespace Go.Proofs.YtekbfommnmikbaaGreatDoor
set_option linter.unusedVariables false
set_option linter.unusedSimpArgs false
open Go.RowKit

end Go.Proofs.YtekbfommnmikbaaGreatDoor
/- The reference of layer 2: numbers; Of, zeros, at, Order. -/
namespace Go.Proofs.YtekbfommnmikbaaGreatDoor
set_option linter.unusedVariables false
set_option linter.unusedSimpArgs false
open Go.RowKit Go.Shelf Go.Proofs
attribute [local go_sem ↓] Go.wp_at_zero Go.wp_at_succ

/-- v is the number z times 10 to the power of e. -/
def Dc (w : World) (v : Value) (z e : Int) : Prop := ∃ A n c b, v = .agg #[.slice A n c, .bool b, .int .i64 e] ∧ Ri w (.agg #[.slice A n c, .bool b]) z
theorem Dc.below {w w' : World} {v : Value} {z e : Int} (h : Dc w v z e) (hb : Below w.heap.size w w') : Dc w' v z e := by
  obtain ⟨A, n, c, b, h1, h2⟩ := h
  exact ⟨A, n, c, b, h1, h2.below hb⟩
end Go.Proofs.YtekbfommnmikbaaGreatDoor
/- The reference of layer 2: at, Order, Plus, Times, Whole, FromNumber. -/
namespace Go.Proofs.YtekbfommnmikbaaGreatDoor
set_option linter.unusedVariables false
set_option linter.unusedSimpArgs false
open Go.RowKit Go.Shelf Go.Proofs
attribute [local go_sem ↓] Go.wp_at_zero Go.wp_at_succ
attribute [local go_sem] max2_int min2_int max_two min_two

theorem Dc.drew {w : World} {v : Value} {z e : Int} (h : Dc w v z e) : Dc w.drew v z e := h.below (Below.refl _ _).drew
end Go.Proofs.YtekbfommnmikbaaGreatDoor
/- The reference of layer 2: half, number, signed. -/
namespace Go.Proofs.YtekbfommnmikbaaGreatDoor
set_option linter.unusedVariables false
set_option linter.unusedSimpArgs false
open Go.RowKit Go.Shelf Go.Proofs
attribute [local go_sem ↓] Go.wp_at_zero Go.wp_at_succ

/-- Digits behind a point against a half. -/
def hC (xs : List Int) : Int := sgn (2 * val 10 xs - 10 ^ xs.length)
end Go.Proofs.YtekbfommnmikbaaGreatDoor
/- The reference of layer 2: Round. -/
namespace Go.Proofs.YtekbfommnmikbaaGreatDoor
set_option linter.unusedVariables false
set_option linter.unusedSimpArgs false
open Go.RowKit Go.Shelf Go.Proofs
attribute [local go_sem ↓] Go.wp_at_zero Go.wp_at_succ

end Go.Proofs.YtekbfommnmikbaaGreatDoor
/- The reference of layer 2: Plus, Sum, Times, more. -/
namespace Go.Proofs.YtekbfommnmikbaaGreatDoor
set_option linter.unusedVariables false
set_option linter.unusedSimpArgs false
open Go.RowKit Go.Shelf Go.Proofs
attribute [local go_sem ↓] Go.wp_at_zero Go.wp_at_succ
attribute [local go_sem] max2_int min2_int max_two min_two

end Go.Proofs.YtekbfommnmikbaaGreatDoor
/- The reference of layer 2: Sum, more. -/
namespace Go.Proofs.YtekbfommnmikbaaGreatDoor
set_option linter.unusedVariables false
set_option linter.unusedSimpArgs false
open Go.RowKit Go.Shelf Go.Proofs
attribute [local go_sem ↓] Go.wp_at_zero Go.wp_at_succ

end Go.Proofs.YtekbfommnmikbaaGreatDoor
/- The reference of layer 2: Scale, Places. -/
namespace Go.Proofs.YtekbfommnmikbaaGreatDoor
set_option linter.unusedVariables false
set_option linter.unusedSimpArgs false
open Go.RowKit Go.Shelf Go.Proofs
attribute [local go_sem ↓] Go.wp_at_zero Go.wp_at_succ

end Go.Proofs.YtekbfommnmikbaaGreatDoor
/- The reference of layer 2: more, Over, Root. -/
namespace Go.Proofs.YtekbfommnmikbaaGreatDoor
set_option linter.unusedVariables false
set_option linter.unusedSimpArgs false
open Go.RowKit Go.Shelf Go.Proofs
attribute [local go_sem ↓] Go.wp_at_zero Go.wp_at_succ

end Go.Proofs.YtekbfommnmikbaaGreatDoor
/- The reference of layer 2: Over. -/
namespace Go.Proofs.YtekbfommnmikbaaGreatDoor
set_option linter.unusedVariables false
set_option linter.unusedSimpArgs false
open Go.RowKit Go.Shelf Go.Proofs
attribute [local go_sem ↓] Go.wp_at_zero Go.wp_at_succ

end Go.Proofs.YtekbfommnmikbaaGreatDoor
/- The reference of layer 2: Root. -/
namespace Go.Proofs.YtekbfommnmikbaaGreatDoor
set_option linter.unusedVariables false
set_option linter.unusedSimpArgs false
open Go.RowKit Go.Shelf Go.Proofs
attribute [local go_sem ↓] Go.wp_at_zero Go.wp_at_succ

/-- How many digits the reference lays behind a number whose root it takes. -/
def rtK (e : Int) : Nat := if (e - 30).tmod 2 = 0 then 30 else 31
end Go.Proofs.YtekbfommnmikbaaGreatDoor
/- Plain laws: what Div and Root round is what the reference rounds. -/
namespace Go.Proofs.YtekbfommnmikbaaGreatDoor
set_option linter.unusedVariables false
set_option linter.unusedSimpArgs false

theorem root_form {m e : Int} (h : RV m.natAbs e) (h0 : 0 ≤ m) : rootR m e = resS (rndS (10 * (root (m.natAbs * 10 ^ rtK e) : Int) + (if root (m.natAbs * 10 ^ rtK e) * root (m.natAbs * 10 ^ rtK e) = m.natAbs * 10 ^ rtK e then 0 else 1)) ((e - rtK e).tdiv 2 - 1)) := by
  unfold rootR
  rw [if_neg (fun x => x h), if_neg (by omega)]
  by_cases hm : m = 0
  · subst hm
    have he : e = 0 := by unfold RV at h; omega
    subst he
    have hr0 : root 0 = 0 := root_eq (by decide) (by decide)
    rw [if_pos rfl, Int.natAbs_zero, Nat.zero_mul, hr0, if_pos rfl]
    show _ = resS (rndS 0 _)
    rw [rndS_zero]
    rfl
  · rw [if_neg hm, resR_sgo]
    congr 1
    obtain ⟨M, hM⟩ : ∃ M, m.natAbs = M := ⟨_, rfl⟩
    rw [hM] at h ⊢
    have hM0 : 0 < M := by omega
    obtain ⟨_, _, _, hX⟩ := rootL_facts h hM0
    obtain ⟨R, S, hr, hv⟩ := rootV_form h hM0
    have hsz := root_size h hM0 hr
    have hpar : (rootJ e = 16 ∧ rtK e = 30) ∨ (rootJ e = 15 ∧ rtK e = 31) := by
      unfold rootJ rtK
      have a := Int.mul_tdiv_add_tmod e 2
      have b := Int.mul_tdiv_add_tmod (e - 30) 2
      have bd : ∀ x : Int, -2 < x.tmod 2 ∧ x.tmod 2 < 2 := by
        intro x
        have c := Int.tmod_lt_of_pos x (show (0 : Int) < 2 by decide)
        have d := Int.tmod_lt_of_pos (-x) (show (0 : Int) < 2 by decide)
        rw [Int.neg_tmod] at d
        omega
      have c := bd e; have d := bd (e - 30)
      by_cases h1 : e.tmod 2 = 0
      · rw [if_pos h1, if_pos (by omega)]; exact .inl ⟨rfl, rfl⟩
      · rw [if_neg h1, if_neg (by omega)]; exact .inr ⟨rfl, rfl⟩
    have key : ∀ d J K : Nat, rootJ e = J → rtK e = K → K = J + 2 * d → 0 < d → sgo false (rootV M e) = rndS (10 * (root (M * 10 ^ K) : Int) + (if root (M * 10 ^ K) * root (M * 10 ^ K) = M * 10 ^ K then 0 else 1)) ((e - (K : Int)).tdiv 2 - 1) := by
      intro d J K hJ hK hd hd0
      rw [hJ] at hr hX
      have hP : M * 10 ^ K = M * 10 ^ J * 100 ^ d := by rw [hd, Nat.pow_add, Nat.pow_mul, Nat.mul_assoc]
      have hra : RootAt (M * 10 ^ J * 100 ^ d) (root (M * 10 ^ K)) (M * 10 ^ K - root (M * 10 ^ K) * root (M * 10 ^ K)) := by
        have h1 := root_le (M * 10 ^ K)
        have h2 := root_lt (M * 10 ^ K)
        rw [← hP]
        refine ⟨by omega, ?_⟩
        have : (root (M * 10 ^ K) + 1) * (root (M * 10 ^ K) + 1) = root (M * 10 ^ K) * root (M * 10 ^ K) + 2 * root (M * 10 ^ K) + 1 := by grind
        omega
      obtain ⟨B, hB1, hB2, hB3⟩ := rootAt_cut hr hra
      have hsq : root (M * 10 ^ K) * root (M * 10 ^ K) = M * 10 ^ K ↔ M * 10 ^ K - root (M * 10 ^ K) * root (M * 10 ^ K) = 0 := by
        have h1 := root_le (M * 10 ^ K)
        omega
      have hst := sticky2 (A := R) (B := B) (d := d) (decide (¬ root (M * 10 ^ K) * root (M * 10 ^ K) = M * 10 ^ K)) (by omega) hB2 hd0 ((e - (K : Int)).tdiv 2 - 1)
      rw [← hB1] at hst
      unfold rndS
      have hnn : (10 * (root (M * 10 ^ K) : Int) + (if root (M * 10 ^ K) * root (M * 10 ^ K) = M * 10 ^ K then 0 else 1)) = ((10 * root (M * 10 ^ K) + (if decide (¬ root (M * 10 ^ K) * root (M * 10 ^ K) = M * 10 ^ K) = true then 1 else 0) : Nat) : Int) := by
        by_cases hq : root (M * 10 ^ K) * root (M * 10 ^ K) = M * 10 ^ K
        · rw [if_pos hq, if_neg (by simp [hq])]; omega
        · rw [if_neg hq, if_pos (by simp [hq])]; omega
      rw [hnn, Int.natAbs_natCast, hst, decide_eq_false (by omega : ¬ (((10 * root (M * 10 ^ K) + (if decide (¬ root (M * 10 ^ K) * root (M * 10 ^ K) = M * 10 ^ K) = true then 1 else 0) : Nat) : Int) < 0))]
      have hif : (if B = 0 ∧ decide (¬ root (M * 10 ^ K) * root (M * 10 ^ K) = M * 10 ^ K) = false then (0 : Nat) else 1) = if S = 0 then 0 else 1 := by
        by_cases hS : S = 0
        · obtain ⟨b0, s0⟩ := hB3.1 hS
          rw [if_pos hS, if_pos ⟨b0, by simp [hsq.2 s0]⟩]
        · rw [if_neg hS, if_neg]
          rintro ⟨b0, s0⟩
          have : root (M * 10 ^ K) * root (M * 10 ^ K) = M * 10 ^ K := by simpa using s0
          exact hS (hB3.2 ⟨b0, hsq.1 this⟩)
      rw [hif, hv]
      congr 2
      have e1 : e - (K : Int) = 2 * (rootX M e - (d : Int)) := by omega
      rw [e1, Int.mul_tdiv_cancel_left _ (by decide)]
      omega
    rcases hpar with ⟨hJ, hK⟩ | ⟨hJ, hK⟩
    · have := key 7 16 30 hJ hK (by decide) (by decide)
      rw [hK]; exact this
    · have := key 8 15 31 hJ hK (by decide) (by decide)
      rw [hK]; exact this
end Go.Proofs.YtekbfommnmikbaaGreatDoor
/- Plain laws: whole numbers of at most 12 digits are exact; a difference of two reals that are near each other is exact. -/
namespace Go.Proofs.YtekbfommnmikbaaGreatDoor
set_option linter.unusedVariables false
set_option linter.unusedSimpArgs false

/-- How many zeros a whole number gets. -/
def wj (n : Int) : Nat := if n = 0 then 0 else 12 - nd n.natAbs
theorem wj_le (n : Int) : wj n ≤ 11 := by
  unfold wj
  split
  · omega
  · have := nd_pos (show 0 < n.natAbs by omega); omega
/-- A number of at most 12 digits is not rounded. -/
theorem rnd_exact {v e : Int} (h : v.natAbs < 1000000000000) (he : -100 ≤ e) (he2 : e ≤ 88) : rndS v e = some (v * 10 ^ wj v, if v = 0 then 0 else e - (wj v : Int)) ∧ RV (v * 10 ^ wj v).natAbs (if v = 0 then 0 else e - (wj v : Int)) := by
  by_cases h0 : v = 0
  · subst h0
    rw [rndS_zero, if_pos rfl, Int.zero_mul]
    exact ⟨rfl, .inl ⟨rfl, rfl⟩⟩
  · have hv : 0 < v.natAbs := by omega
    have hn := (nd_le v.natAbs 12).2 h
    have hp := nd_pos hv
    have hj : wj v = 12 - nd v.natAbs := by unfold wj; rw [if_neg h0]
    have hjl := wj_le v
    have hnd := nd_pow hv (wj v)
    have hna : (v * 10 ^ wj v).natAbs = v.natAbs * 10 ^ wj v := by rw [Int.natAbs_mul, Int.natAbs_pow]; rfl
    have hrv : RV (v * 10 ^ wj v).natAbs (e - (wj v : Int)) := by
      rw [hna]
      have h12 : nd (v.natAbs * 10 ^ wj v) = 12 := by rw [hnd]; omega
      have hlow := nd_low (n := v.natAbs * 10 ^ wj v) (Nat.mul_pos hv (Nat.pow_pos (by decide)))
      have hlt := lt_nd (v.natAbs * 10 ^ wj v)
      rw [h12] at hlow hlt
      exact .inr ⟨hlow, hlt, by omega, by omega⟩
    rw [if_neg h0]
    refine ⟨?_, hrv⟩
    rw [← rndS_mul v (wj v) e]
    exact rndS_self hrv
/-- A real, at the least power that a product has. -/
def vT (m e : Int) : Int := m * 10 ^ (e + 222).toNat
theorem rndS_vT {m e : Int} (h : RV m.natAbs e) : rndS (vT m e) (-222) = some (m, e) := by
  have := rndS_scale m (show (-222 : Int) ≤ e by have := RV_exp h; omega)
  rw [show e - -222 = e + 222 by omega] at this
  unfold vT
  rw [this, rndS_self h]
theorem rnd_vT {v e a b : Int} (h : v.natAbs < 1000000000000) (he : -100 ≤ e) (he2 : e ≤ 88) (hr : rndS v e = some (a, b)) : vT a b = v * 10 ^ (e + 222).toNat := by
  obtain ⟨h1, h2⟩ := rnd_exact h he he2
  rw [hr] at h1
  simp only [Option.some.injEq, Prod.mk.injEq] at h1
  obtain ⟨rfl, rfl⟩ := h1
  unfold vT
  by_cases h0 : v = 0
  · subst h0; rw [Int.zero_mul, Int.zero_mul, Int.zero_mul]
  · rw [if_neg h0, Int.mul_assoc, ← Int.pow_add]
    have := wj_le v
    congr 2
    omega
theorem sub_form {xm xe ym ye : Int} (hx : RV xm.natAbs xe) (hy : RV ym.natAbs ye) : subX xm xe ym ye = resS (rndS (vT xm xe - vT ym ye) (-222)) := by
  unfold subX doneR
  rw [if_pos ⟨hx, hy⟩, if_pos rfl]
  unfold sumR
  rw [resR_rndS]
  simp only [sumV, Int.add_zero]
  unfold vT
  rw [Int.neg_mul]
  rfl
/-- A whole number's real. -/
def wm (n : Int) : Int := n * 10 ^ wj n
def we (n : Int) : Int := if n = 0 then 0 else 0 - (wj n : Int)
theorem whole_rnd {n : Int} (h : n.natAbs < 1000000000000) : rndS n 0 = some (wm n, we n) ∧ RV (wm n).natAbs (we n) := rnd_exact h (by decide) (by decide)
theorem whole_vT {n : Int} (h : n.natAbs < 1000000000000) : vT (wm n) (we n) = n * 10 ^ 222 := rnd_vT h (by decide) (by decide) (whole_rnd h).1
theorem rndS_222 (n : Int) : rndS (n * 10 ^ 222) (-222) = rndS n 0 := rndS_scale n (show (-222 : Int) ≤ 0 by decide)
theorem ex_add {a b : Int} (ha : a.natAbs < 1000000000000) (hb : b.natAbs < 1000000000000) (hs : (a + b).natAbs < 1000000000000) : addX (wm a) (we a) (wm b) (we b) = .tuple #[.agg #[.int .i64 (wm (a + b)), .int .i64 (we (a + b))], .int .i64 0] := by
  rw [add_form (whole_rnd ha).2 (whole_rnd hb).2]
  have e1 := whole_vT ha
  have e2 := whole_vT hb
  unfold vT at e1 e2
  rw [e1, e2, ← Int.add_mul, rndS_222, (whole_rnd hs).1]
  rfl
theorem ex_sub {a b : Int} (ha : a.natAbs < 1000000000000) (hb : b.natAbs < 1000000000000) (hs : (a - b).natAbs < 1000000000000) : subX (wm a) (we a) (wm b) (we b) = .tuple #[.agg #[.int .i64 (wm (a - b)), .int .i64 (we (a - b))], .int .i64 0] := by
  rw [sub_form (whole_rnd ha).2 (whole_rnd hb).2, whole_vT ha, whole_vT hb, ← Int.sub_mul, rndS_222, (whole_rnd hs).1]
  rfl
theorem ten_split {n : Nat} (h : n ≤ 111) (x : Int) : x * 10 ^ n * 10 ^ (111 - n) = x * 10 ^ 111 := by
  rw [Int.mul_assoc, ← Int.pow_add, show n + (111 - n) = 111 by omega]
theorem wm_vR {n : Int} (h : n.natAbs < 1000000000000) : vR (wm n) (we n) = n * 10 ^ 111 := by
  unfold vR wm we
  have := wj_le n
  by_cases h0 : n = 0
  · subst h0; rw [Int.zero_mul, Int.zero_mul, Int.zero_mul]
  · rw [if_neg h0, show (0 - (wj n : Int) + 111).toNat = 111 - wj n by omega, ten_split (by omega)]
theorem ex_mul {a b : Int} (ha : a.natAbs < 1000000000000) (hb : b.natAbs < 1000000000000) (hs : (a * b).natAbs < 1000000000000) : mulX (wm a) (we a) (wm b) (we b) = .tuple #[.agg #[.int .i64 (wm (a * b)), .int .i64 (we (a * b))], .int .i64 0] := by
  rw [mul_form (whole_rnd ha).2 (whole_rnd hb).2, mul_at (whole_rnd ha).2 (whole_rnd hb).2, wm_vR ha, wm_vR hb]
  have e : a * 10 ^ 111 * (b * 10 ^ 111) = a * b * 10 ^ 222 := by
    rw [show (222 : Nat) = 111 + 111 from rfl, Int.pow_add]
    generalize (10 : Int) ^ 111 = U
    grind
  rw [e, rndS_222, (whole_rnd hs).1]
  rfl
theorem root_pow (a : Nat) (h : Nat) : root (a * a * 10 ^ (2 * h)) = a * 10 ^ h := by
  have e : a * a * 10 ^ (2 * h) = a * 10 ^ h * (a * 10 ^ h) := by
    rw [Nat.two_mul, Nat.pow_add]; generalize 10 ^ h = P; grind
  rw [e]
  exact root_eq (Nat.le_refl _) (Nat.mul_lt_mul'' (by omega) (by omega))
theorem ex_root {a : Int} (h1 : a.natAbs < 1000000000000) (h2 : (a * a).natAbs < 1000000000000) : rootR (wm (a * a)) (we (a * a)) = .tuple #[.agg #[.int .i64 (wm a.natAbs), .int .i64 (we a.natAbs)], .int .i64 0] := by
  have hnn : 0 ≤ a * a := by
    rcases Int.le_total 0 a with h | h
    · exact Int.mul_nonneg h h
    · exact Int.mul_nonneg_of_nonpos_of_nonpos h h
  have hw0 : 0 ≤ wm (a * a) := Int.mul_nonneg hnn (Int.le_of_lt (Int.pow_pos (by decide)))
  rw [root_form (whole_rnd h2).2 hw0]
  obtain ⟨j, hj⟩ : ∃ j, wj (a * a) = j := ⟨_, rfl⟩
  have hjl := wj_le (a * a)
  have hwm : (wm (a * a)).natAbs = a.natAbs * a.natAbs * 10 ^ j := by
    unfold wm; rw [hj, Int.natAbs_mul, Int.natAbs_pow, Int.natAbs_mul]; rfl
  by_cases h0 : a = 0
  · subst h0
    have e1 : (wm (0 * 0)).natAbs = 0 := by rw [hwm]; simp
    have e2 : root 0 = 0 := root_eq (by decide) (by decide)
    rw [e1, Nat.zero_mul, e2, if_pos rfl, show (10 : Int) * ((0 : Nat) : Int) + 0 = 0 from rfl, rndS_zero]
    show resS (some (0, 0)) = .tuple #[.agg #[.int .i64 (wm 0), .int .i64 (we 0)], .int .i64 0]
    have e3 : wm 0 = 0 := by unfold wm; rw [Int.zero_mul]
    have e4 : we 0 = 0 := by unfold we; rw [if_pos rfl]
    rw [e3, e4]; rfl
  · have ha2 : a * a ≠ 0 := fun h => by rcases Int.mul_eq_zero.1 h with h | h <;> exact h0 h
    have hwe : we (a * a) = -(j : Int) := by unfold we; rw [if_neg ha2, hj]; omega
    rw [hwe, hwm]
    obtain ⟨K, hK⟩ : ∃ K, rtK (-(j : Int)) = K := ⟨_, rfl⟩
    rw [hK]
    have hev : ∃ h, j + K = 2 * h ∧ K ≤ 31 := by
      unfold rtK at hK
      have b := Int.mul_tdiv_add_tmod (-(j : Int) - 30) 2
      have c := Int.tmod_lt_of_pos (-(-(j : Int) - 30)) (show (0 : Int) < 2 by decide)
      rw [Int.neg_tmod] at c
      have c2 := Int.tmod_lt_of_pos (-(j : Int) - 30) (show (0 : Int) < 2 by decide)
      split at hK
      · exact ⟨(j + K) / 2, by omega, by omega⟩
      · exact ⟨(j + K) / 2, by omega, by omega⟩
    obtain ⟨h, hh, hK31⟩ := hev
    have e1 : a.natAbs * a.natAbs * 10 ^ j * 10 ^ K = a.natAbs * a.natAbs * 10 ^ (2 * h) := by rw [Nat.mul_assoc, ← Nat.pow_add, hh]
    rw [e1, root_pow]
    have e2 : a.natAbs * 10 ^ h * (a.natAbs * 10 ^ h) = a.natAbs * a.natAbs * 10 ^ (2 * h) := by
      rw [Nat.two_mul, Nat.pow_add]; generalize 10 ^ h = P; grind
    rw [if_pos e2, Int.add_zero]
    have e3 : (-(j : Int) - (K : Int)).tdiv 2 - 1 = 0 - ((h + 1 : Nat) : Int) := by
      rw [show -(j : Int) - (K : Int) = 2 * (-(h : Int)) by omega, Int.mul_tdiv_cancel_left _ (by decide)]; omega
    have e4 : (10 : Int) * ((a.natAbs * 10 ^ h : Nat) : Int) = (a.natAbs : Int) * 10 ^ (h + 1) := by
      rw [Int.natCast_mul, Int.natCast_pow, Int.pow_succ]
      show (10 : Int) * ((a.natAbs : Int) * 10 ^ h) = _
      generalize (10 : Int) ^ h = P
      grind
    rw [e3, e4, rndS_mul, (whole_rnd (n := (a.natAbs : Int)) (by omega)).1]
    rfl
/-- A sum of two reals that are not great is no error. -/
theorem rnd_some {n : Nat} {e : Int} (h : nd n ≤ 13) (he : e ≤ 80) : ∃ m x, rnd n e = some (m, x) := by
  unfold rnd
  split
  · exact ⟨_, _, rfl⟩
  · split
    · split <;> exact ⟨_, _, rfl⟩
    · unfold fit
      split
      · rw [if_neg (by omega)]; exact ⟨_, _, rfl⟩
      · rw [if_neg (by omega)]; exact ⟨_, _, rfl⟩
theorem add_self {m e : Int} (h : RV m.natAbs e) : addX m e m e = resS (rndS (2 * m) e) := by
  rw [add_form h h]
  have he := RV_exp h
  have := rndS_scale (2 * m) (show (-222 : Int) ≤ e by omega)
  rw [show e - -222 = e + 222 by omega] at this
  rw [← this]
  congr 2
  generalize (10 : Int) ^ (e + 222).toNat = P
  grind
theorem twice_ok {m e : Int} (h : RV m.natAbs e) (he : e ≤ 80) : ∃ a b, addX m e m e = .tuple #[.agg #[.int .i64 a, .int .i64 b], .int .i64 0] ∧ RV a.natAbs b ∧ rndS (2 * m) e = some (a, b) := by
  rw [add_self h]
  have hm : m.natAbs < 1000000000000 := by unfold RV at h; omega
  obtain ⟨a, x, hr⟩ := rnd_some (n := (2 * m).natAbs) (e := e) ((nd_le _ 13).2 (by omega)) he
  have hs : rndS (2 * m) e = some (sgm (decide (2 * m < 0)) a, x) := by unfold rndS; rw [hr]; rfl
  rw [hs]
  exact ⟨_, _, rfl, rndS_valid hs, rfl⟩
/-- Below the rounded double means below the double. -/
theorem below_twice {xm xe ym ye a b : Int} (hx : RV xm.natAbs xe) (hy : RV ym.natAbs ye) (hr : rndS (2 * ym) ye = some (a, b)) (h : plR xm xe < plR a b) : vT xm xe < 2 * vT ym ye := by
  by_cases hc : vT xm xe < 2 * vT ym ye
  · exact hc
  · exfalso
    have h1 := rndS_vT hx
    have he := RV_exp hy
    have h2 := rndS_scale (2 * ym) (show (-222 : Int) ≤ ye by omega)
    rw [show ye - -222 = ye + 222 by omega, hr] at h2
    have hle : 2 * ym * 10 ^ (ye + 222).toNat ≤ vT xm xe := by
      have : 2 * ym * 10 ^ (ye + 222).toNat = 2 * vT ym ye := by unfold vT; rw [Int.mul_assoc]
      omega
    have := rndS_mono hle h2 h1
    omega
/-- The difference of two reals that are near each other, at the lesser power. -/
theorem near_diff {xm xe ym ye : Int} (hx : RV xm.natAbs xe) (hy : RV ym.natAbs ye) (hx0 : 0 < xm) (hy0 : 0 < ym) (h1 : vT xm xe < 2 * vT ym ye) (h2 : vT ym ye < 2 * vT xm xe) :
    ∃ k e, (e = xe ∨ e = ye) ∧ k.natAbs < 1000000000000 ∧ vT xm xe - vT ym ye = k * 10 ^ (e + 222).toNat := by
  have ex := RV_exp hx; have ey := RV_exp hy
  have bx : 100000000000 ≤ xm ∧ xm < 1000000000000 := by unfold RV at hx; omega
  have bY : 100000000000 ≤ ym ∧ ym < 1000000000000 := by unfold RV at hy; omega
  rcases Int.le_total ye xe with h | h
  · obtain ⟨d, hd⟩ : ∃ d : Nat, xe = ye + d := ⟨(xe - ye).toNat, by omega⟩
    have e1 : vT xm xe = xm * 10 ^ d * 10 ^ (ye + 222).toNat := by
      unfold vT; rw [Int.mul_assoc, ← Int.pow_add]; congr 2; omega
    rw [e1] at h1 h2 ⊢
    unfold vT at h1 h2 ⊢
    have hP : (0 : Int) < 10 ^ (ye + 222).toNat := Int.pow_pos (by decide)
    have hD : (0 : Int) < 10 ^ d := Int.pow_pos (by decide)
    have hd1 : 1 ≤ xm * 10 ^ d := by have := Int.mul_pos hx0 hD; omega
    refine ⟨xm * 10 ^ d - ym, ye, .inr rfl, ?_, by rw [Int.sub_mul]⟩
    have g1 : xm * 10 ^ d < 2 * ym := by
      rw [← Int.mul_assoc] at h1
      exact Int.lt_of_mul_lt_mul_right h1 (Int.le_of_lt hP)
    by_cases hd0 : d = 0
    · subst hd0; rw [Int.pow_zero, Int.mul_one] at *; omega
    · have : 10 ≤ (10 : Int) ^ d := by
        obtain ⟨c, rfl⟩ : ∃ c, d = c + 1 := ⟨d - 1, by omega⟩
        rw [Int.pow_succ]
        have : (0 : Int) < 10 ^ c := Int.pow_pos (by decide)
        omega
      have g2 : xm * 10 ≤ xm * 10 ^ d := Int.mul_le_mul_of_nonneg_left this (by omega)
      omega
  · obtain ⟨d, hd⟩ : ∃ d : Nat, ye = xe + d := ⟨(ye - xe).toNat, by omega⟩
    have e1 : vT ym ye = ym * 10 ^ d * 10 ^ (xe + 222).toNat := by
      unfold vT; rw [Int.mul_assoc, ← Int.pow_add]; congr 2; omega
    rw [e1] at h1 h2 ⊢
    unfold vT at h1 h2 ⊢
    have hP : (0 : Int) < 10 ^ (xe + 222).toNat := Int.pow_pos (by decide)
    have hD : (0 : Int) < 10 ^ d := Int.pow_pos (by decide)
    refine ⟨xm - ym * 10 ^ d, xe, .inl rfl, ?_, by rw [Int.sub_mul]⟩
    have g1 : ym * 10 ^ d < 2 * xm := by
      rw [← Int.mul_assoc 2] at h2
      exact Int.lt_of_mul_lt_mul_right h2 (Int.le_of_lt hP)
    by_cases hd0 : d = 0
    · subst hd0; rw [Int.pow_zero, Int.mul_one] at *; omega
    · have : 10 ≤ (10 : Int) ^ d := by
        obtain ⟨c, rfl⟩ : ∃ c, d = c + 1 := ⟨d - 1, by omega⟩
        rw [Int.pow_succ]
        have : (0 : Int) < 10 ^ c := Int.pow_pos (by decide)
        omega
      have g2 : ym * 10 ≤ ym * 10 ^ d := Int.mul_le_mul_of_nonneg_left this (by omega)
      omega
/-- There and back. -/
theorem there_back {xm xe ym ye a b c d : Int} (hx : RV xm.natAbs xe) (hy : RV ym.natAbs ye) (hx0 : 0 < xm) (hy0 : 0 < ym) (ex : -99 ≤ xe) (ey : -99 ≤ ye) (r1 : rndS (2 * ym) ye = some (a, b)) (r2 : rndS (2 * xm) xe = some (c, d)) (h1 : plR xm xe < plR a b) (h2 : plR ym ye < plR c d) :
    ∃ p q, subX xm xe ym ye = .tuple #[.agg #[.int .i64 p, .int .i64 q], .int .i64 0] ∧ RV p.natAbs q ∧ addX p q ym ye = .tuple #[.agg #[.int .i64 xm, .int .i64 xe], .int .i64 0] := by
  have g1 := below_twice hx hy r1 h1
  have g2 := below_twice hy hx r2 h2
  obtain ⟨k, e, he, hk, hv⟩ := near_diff hx hy hx0 hy0 g1 g2
  have bx := RV_exp hx; have bY := RV_exp hy
  obtain ⟨hr, hrv⟩ := rnd_exact hk (e := e) (by omega) (by omega)
  rw [sub_form hx hy, hv]
  have hs := rndS_scale k (show (-222 : Int) ≤ e by omega)
  rw [show e - -222 = e + 222 by omega] at hs
  rw [hs, hr]
  refine ⟨_, _, rfl, hrv, ?_⟩
  have hvT := rnd_vT hk (e := e) (by omega) (by omega) hr
  rw [add_form hrv hy]
  unfold vT at hvT hv
  rw [hvT, ← hv, Int.sub_add_cancel]
  have := rndS_vT hx
  unfold vT at this
  rw [this]
  rfl
end Go.Proofs.YtekbfommnmikbaaGreatDoor
/- The reference of layer 2: Whole, FromNumber, Floor. -/
namespace Go.Proofs.YtekbfommnmikbaaGreatDoor
set_option linter.unusedVariables false
set_option linter.unusedSimpArgs false
open Go.RowKit Go.Shelf Go.Proofs
attribute [local go_sem ↓] Go.wp_at_zero Go.wp_at_succ

end Go.Proofs.YtekbfommnmikbaaGreatDoor
/- Package real: FromNumber, Floor. -/
namespace Go.Proofs.YtekbfommnmikbaaGreatDoor
set_option linter.unusedVariables false
set_option linter.unusedSimpArgs false
open Go.RowKit Go.Shelf Go.Proofs
attribute [local go_sem ↓] Go.wp_at_zero Go.wp_at_succ

/-- What FromNumber returns for an integer. -/
theorem vd_text {D : ByteArray} {n : Nat} (h : DecT D n) : vd (D.data.toList.map dval) = (n : Int) ∧ InR 10 (D.data.toList.map dval) := by
  have hd : ∀ b ∈ D.data.toList, isDig b := by rw [h.l_]; exact decDigits_dig n
  have h1 := val_rev hd
  rw [← vd_rev, List.reverse_reverse] at h1
  refine ⟨by rw [h1, h.l_, decVal_decDigits], ?_⟩
  have h2 := inR_rev hd
  exact fun x hx => h2 x (List.mem_reverse.2 hx)
theorem bytes_row {w : World} {g : Nat} {D : ByteArray} {cap : Nat} {t : TypeId} {fz : Nat × Nat} (h : w.heap[g]? = some (.cells (bytesRow D cap) t fz)) (j : Nat) (hj : j < D.size) : w.cell? ⟨g, j, none⟩ = some (.int .u8 (D[j].toNat : Int)) := by
  rw [cell_of_heap h]
  unfold bytesRow
  rw [Array.getElem?_append_left (by simpa using hj), Array.getElem?_map, Array.getElem?_eq_getElem hj]
  rfl

/-- The head of the amount that FromNumber makes. -/
def NumRes (S : ByteArray) (e : Ending) : Prop := (∃ z, NumL S.data.toList z ∧ e = .returned (resS (rndS z 0))) ∨ ((¬ ∃ z, NumL S.data.toList z) ∧ e = .returned (.tuple #[.agg #[.int .i64 0, .int .i64 0], .int .i64 1]))

set_option maxRecDepth 100000 in
set_option maxHeartbeats 8000000 in
theorem fromN_ok (S D : ByteArray) (s : Bool) (n : Nat) (R : Value) (w : World) (hv : ∃ z, NumL S.data.toList z) (hpre : Lib.hasPrefix S.data.toList [45] = s) (hD : (⟨(Lib.trimPrefix S.data.toList [45]).toArray⟩ : ByteArray) = D) (hd : DecT D n) (hR : resR s (rnd n 0) = R) :
    Calls Tryz.prog 63 #[.string S] w fun en w' => en = .returned R ∧ Below w.heap.size w w' := by
  obtain ⟨a', b', c', hf⟩ := res_form s (rnd n 0)
  rw [hf] at hR
  subst hR
  have HD := Lib.hid hD; have HPRE := Lib.hid hpre; have HV := Lib.hid hv; have HDT := Lib.hid hd
  have HR := Lib.hid hf
  have hs2 : D.size ≤ 200 := hd.le
  obtain ⟨I0, hi, hz0, hz1, hz3⟩ := info_parts info_byte
  have HI := Lib.hid (And.intro hi (And.intro hz0 (And.intro hz1 hz3)))
  have hconv := fun W : World => run_bytes_of_string (P := Tryz.prog) W 9 93 5 D Tryz.underlying9 Tryz.underlying93 Tryz.underlying5
  obtain ⟨cp, hcp⟩ : ∃ cp : World → Nat, (fun W : World => grownCap W D.size 0 5) = cp := ⟨_, rfl⟩
  have hcp' : ∀ W : World, grownCap W D.size 0 5 = cp W := fun W => congrFun hcp W
  simp only [hcp'] at hconv
  clear hcp hcp' hi hz0 hz1 hz3 hv hpre hD hd hf
  go_enter Tryz.func63, Tryz.ntmps63
  go_wp2_with (first
    | (go_at_call 62; (with_reducible refine (valid_c S _).mono ?_); rintro e W2 ⟨⟨b, rfl, hb⟩, hbz⟩; have hbt : b = true := hb.2 HV.out; subst hbt; have HB2 := Lib.hid hbz; have HX2 := Lib.hid (heapB hbz (heap_alloc_new _ _)); clear hb hbz)
    | (go_at_call 136; (with_reducible refine (Tryz.strings_CutPrefix S _ _).mono ?_); rintro e W3 ⟨rfl, rfl⟩; rw [show (ByteArray.mk #[45]).data.toList = [45] from rfl, HD.out, HPRE.out]))
  obtain ⟨B, hB⟩ : ∃ B, W3.heap.size = B := ⟨_, rfl⟩
  have HBW : Hid (Below w.heap.size w W3) := below_then' ((Below.refl _ _).alloc (Nat.le_refl _) _) HB2.out
  have hwB : w.heap.size < B := by have := HB2.out.size; simp at this; omega
  have HBE := Lib.hid hB
  obtain ⟨cc, hcc⟩ : ∃ cc, cp (W3.alloc (.cells #[.bool s, .slice none 0 0, .int .i64 0, .bool false] 95)) = cc := ⟨_, rfl⟩
  rw [hcc, hB]
  clear hcc hconv hB
  go_loopg [24] D.size (fun g i wr => ∃ (k : Nat) (v : Value), i = .int .i64 (k : Int) ∧ k + g = D.size ∧ Hid (wr.heap[w.heap.size]? = some (.cells #[.int .i64 0, .int .i64 0] 23 (0, 0))) ∧ Hid (wr.heap[B]? = some (.cells #[.bool s, v, .int .i64 0, .bool false] 95 (0, 0))) ∧ Hid (∃ fz, wr.heap[B + 1]? = some (.cells (bytesRow D cc) 5 fz)) ∧ B + 1 < wr.heap.size ∧ Hid (wr.ownsRow (B + 2) 5 1 v k (((D.data.toList.take k).map dval).map (Value.int .u8))) ∧ Hid (Below w.heap.size w wr))
  case atStart =>
    refine ⟨0, .slice none 0 0, rfl, by omega, heap_old _ (heap_old _ HX2.out), heap_old _ (heap_new' _ _ _ HBE.out.symm), ⟨_, heap_new' _ _ _ (by simp; exact HBE.out.symm)⟩, by simp; have := HBE.out; omega, World.ownsRow_nil _ _ _ _, ?_⟩
    exact ((HBW.out.alloc HBW.out.size _).alloc (by simp; have := HBW.out.size; omega) _).drew
  case round =>
    obtain ⟨k, v, rfl, hkg, HX, HA, HY, hszB, HOW, HB⟩ := hrel
    have hxB := cell_of_heap HX.out 0; have hxB1 := cell_of_heap HX.out 1
    have a0 := cell_of_heap HA.out 0; have a1 := cell_of_heap HA.out 1; have a2 := cell_of_heap HA.out 2; have a3 := cell_of_heap HA.out 3
    have af := free_of_heap HA.out 1
    simp at hxB hxB1 a0 a1 a2 a3
    by_cases hg : gk = 0
    · obtain rfl : k = D.size := by omega
      obtain ⟨hvd, hin⟩ := vd_text HDT.out
      obtain ⟨A9, c9, e9, hlc, hcm, hrow, hln⟩ := own_row HOW.out
      rw [List.take_of_length_le (by simp)] at e9 hlc hrow hln
      obtain ⟨xs, hxs⟩ : ∃ xs, D.data.toList.map dval = xs := ⟨_, rfl⟩
      rw [hxs] at hvd hin e9 hlc hrow hln
      subst e9
      have hcm' : c9 ≤ 9223372036854775807 := by unfold maxLen at hcm; omega
      have HRD := Lib.hid (rounded_c s A9 c9 xs 0 false wr hrow hlc hcm' hin (by omega) (by decide) (by decide))
      rw [show withMore xs false = xs from rfl, show expMore 0 false = 0 from rfl, hvd, Int.toNat_natCast, HR.out] at HRD
      have hf0 := free_of_heap HX.out 0; have hf1 := free_of_heap HX.out 1
      clear hvd hin hlc hrow hxs hg hkg
      rw [hln] at HRD a1
      have HLN := Lib.hid hln
      clear hln
      go_wp2_with (go_at_call 88; (with_reducible refine (HRD.out).mono ?_); rintro en w5 ⟨rfl, hbz⟩; have hhx := heapB hbz HX.out; have x0 := cell_of_heap hhx 0; have x1 := cell_of_heap hhx 1; have y0 := free_of_heap hhx 0; have y1 := free_of_heap hhx 1; simp at x0 x1; have HX5 := Lib.hid hhx; have HB5 := Lib.hid (belowT HB.out hbz); clear hbz hhx)
      have h9 := putB (putB HX5.out 0 (.int .i64 a')) 1 (.int .i64 b')
      have r0 := cell_of_heap h9 0; have r1 := cell_of_heap h9 1
      simp at r0 r1
      refine bodyPost_ret (v := .tuple #[.agg #[.int .i64 a', .int .i64 b'], .int .i64 c']) (by simp [results, Tryz.results63, go_sem, r0, r1]) rfl ?_
      exact ⟨rfl, (HB5.out.setCell (p := ⟨w.heap.size, 0, none⟩) (Nat.le_refl _) _).setCell (p := ⟨w.heap.size, 1, none⟩) (Nat.le_refl _) _⟩
    · obtain ⟨g, rfl⟩ : ∃ g, gk = g + 1 := ⟨gk - 1, by omega⟩
      have hk : k < D.size := by omega
      obtain ⟨fz, hY⟩ := HY.out
      have hb := bytes_row hY k hk
      have hd0 : 48 ≤ D[k].toNat := (HDT.out.dg k hk).1
      have hd1 : D[k].toNat ≤ 57 := (HDT.out.dg k hk).2
      have hwr1 : IntKind.u8.wrap ((D[k].toNat : Int) - 48) = (D[k].toNat : Int) - 48 := by rw [show IntKind.u8.wrap ((D[k].toNat : Int) - 48) = ((D[k].toNat : Int) - 48) % 256 from rfl]; omega
      have HST : Hid ((D.data.toList.take (k + 1)).map dval = (D.data.toList.take k).map dval ++ [(D[k].toNat : Int) - 48]) := by
        show _ = _
        rw [List.take_succ_eq_append_getElem (by simpa using hk), List.map_append]; rfl
      have HNE := Lib.hid (own_ne HOW.out (B := B) (by omega))
      have HNE0 := Lib.hid (own_ne HOW.out (B := w.heap.size) (by omega))
      have HNE1 := Lib.hid (own_ne HOW.out (B := B + 1) (by omega))
      have HFZ := Lib.hid hY
      clear hY hg
      go_wp2_with (at_builtin; refine wpList_append_lies _ rfl _ _ 93 rfl (B + 2) 5 I0 (.int .u8 0) 1 1 Tryz.underlying93 HI.out.1 HI.out.2.1 HI.out.2.2.1 HI.out.2.2.2 rfl (by decide) _ _ _ rfl (HOW.out.alloc _) ⟨wr.heap.size, 0, none⟩ 1 1 [.int .u8 ((D[k].toNat : Int) - 48)] rfl rfl (cell_one_new _ _ _) (by simp [Value.oneCell']) (by omega) (by unfold maxLen; omega) (by omega) (by simp; omega) _ rfl ?_; intro gg cap w1 hown1 hgrow1 hat hlt1; have HXA := Lib.hid (grown_put hgrow1 (heap_old _ HA.out) HNE.out); have HXX := Lib.hid (grown_put hgrow1 (heap_old _ HX.out) HNE0.out); have HXY := Lib.hid (grown_put hgrow1 (heap_old _ HFZ.out) HNE1.out); have b1 := cell_of_heap HXA.out 1; have f1 := free_of_heap HXA.out 1; simp at b1; have HO1 := Lib.hid hown1; have HG1 := Lib.hid hgrow1; clear hown1 hgrow1)
      go_roundg g
      case measure => omega
      case rel =>
        refine ⟨k + 1, .slice (some ⟨gg, 0, none⟩) (k + 1) cap, by go_num, by omega, ?_, box_put HXA.out 1 _, ⟨fz, ?_⟩, ?_, ?_, ?_⟩
        · exact (Below.heap_setCell _ _ _ _ (by simp; omega)).trans HXX.out
        · exact (Below.heap_setCell _ _ _ _ (by simp)).trans HXY.out
        · have := HG1.out.size; simp at this ⊢; omega
        · have h1 := own_setCell_other HO1.out ⟨B, 1, none⟩ (.slice (some ⟨gg, 0, none⟩) (k + 1) cap) (own_ne HO1.out (by simp))
          rw [HST.out, List.map_append]; exact h1
        · exact (((HB.out.alloc HB.out.size _).grown HG1.out (by simp; have := HB.out.size; omega) ((own_from HOW.out).mono (by omega))).setCell (p := ⟨B, 1, none⟩) (by simp; omega) _)

set_option maxRecDepth 100000 in
set_option maxHeartbeats 4000000 in
theorem fromN_c (S : ByteArray) (w : World) : Calls Tryz.prog 63 #[.string S] w fun en w' => NumRes S en ∧ Below w.heap.size w w' := by
  by_cases hv : ∃ z, NumL S.data.toList z
  · obtain ⟨z, hz⟩ := hv
    have key : ∀ (D : ByteArray) (s : Bool), Lib.hasPrefix S.data.toList [45] = s → (⟨(Lib.trimPrefix S.data.toList [45]).toArray⟩ : ByteArray) = D → D.data.toList = Lib.decDigits z.natAbs → s = decide (z < 0) → Calls Tryz.prog 63 #[.string S] w fun en w' => NumRes S en ∧ Below w.heap.size w w' := by
      intro D s h1 h2 h3 h4
      refine (fromN_ok S D s z.natAbs _ w ⟨z, hz⟩ h1 h2 (decT h3 hz.2) rfl).mono ?_
      rintro en w' ⟨rfl, hb⟩
      refine ⟨.inl ⟨z, hz, ?_⟩, hb⟩
      rw [h4, resR_rndS]
    have hpre : ∀ l : List UInt8, Lib.hasPrefix (45 :: l) [45] = true := fun l => by simp [Lib.hasPrefix]
    have htrim : ∀ l : List UInt8, Lib.trimPrefix (45 :: l) [45] = l := fun l => by simp [Lib.trimPrefix, hpre]
    have hpre2 : ∀ l : List UInt8, l.head? ≠ some 45 → Lib.hasPrefix l [45] = false := fun l h => by
      cases l with
      | nil => simp [Lib.hasPrefix]
      | cons a t =>
        have ha : ((45 : UInt8) == a) = false := by rw [beq_eq_false_iff_ne]; exact fun e => h (by rw [← e]; rfl)
        simp [Lib.hasPrefix, List.isPrefixOf, ha]
    by_cases h0 : z < 0
    · have e : S.data.toList = 45 :: Lib.decDigits z.natAbs := by rw [hz.1, Lib.itoa, if_pos h0]
      refine key ⟨(Lib.decDigits z.natAbs).toArray⟩ true ?_ ?_ ?_ ?_
      · rw [e]; exact hpre _
      · rw [e, htrim]
      · simp
      · exact (decide_eq_true h0).symm
    · obtain ⟨_, e⟩ := text_pos hz h0
      have hh : (Lib.decDigits z.natAbs).head? ≠ some 45 := by
        intro h
        cases hl : Lib.decDigits z.natAbs with
        | nil => rw [hl] at h; cases h
        | cons a t =>
          rw [hl] at h
          cases h
          have := (decDigits_dig z.natAbs 45 (by rw [hl]; simp)).1
          simp at this
      refine key ⟨(Lib.decDigits z.natAbs).toArray⟩ false ?_ ?_ ?_ ?_
      · rw [e]; exact hpre2 _ hh
      · rw [e]; simp [Lib.trimPrefix, hpre2 _ hh]
      · simp
      · exact (decide_eq_false h0).symm
  · have HV := Lib.hid hv
    obtain ⟨W, hW, k0⟩ : ∃ W, w.alloc (.cells #[.int .i64 0, .int .i64 0] 23) = W ∧ W.heap[w.heap.size]? = some (.cells #[.int .i64 0, .int .i64 0] 23 (0, 0)) := ⟨_, rfl, heap_alloc_new _ _⟩
    have hbel : Below w.heap.size w W := by rw [← hW]; exact (Below.refl _ _).alloc (Nat.le_refl _) _
    have FIN := fin2 k0 (Nat.le_refl _) hbel
    have BOX := box2 k0
    clear k0 hbel hv
    go_enter Tryz.func63, Tryz.ntmps63
    go_wp2_with (go_at_call 62; (with_reducible refine (valid_c S _).mono ?_); rintro e W2 ⟨⟨b, rfl, hb⟩, hbz⟩; have hbt : b = false := (by cases b; rfl; exact absurd (hb.1 rfl) HV.out); subst hbt; have HB2 := Lib.hid hbz; obtain ⟨x0, x1, y0, y1⟩ := BOX.out _ hbz; clear hb hbz)
    obtain ⟨r0, r1, hbb⟩ := FIN.out _ 0 0 HB2.out
    refine bodyPost_ret (v := .tuple #[.agg #[.int .i64 0, .int .i64 0], .int .i64 1]) (by simp [results, Tryz.results63, go_sem, r0, r1]) rfl ?_
    exact ⟨.inr ⟨HV.out, rfl⟩, hbb⟩
end Go.Proofs.YtekbfommnmikbaaGreatDoor
/- Package real: Floor. -/
namespace Go.Proofs.YtekbfommnmikbaaGreatDoor
set_option linter.unusedVariables false
set_option linter.unusedSimpArgs false
open Go.RowKit Go.Shelf Go.Proofs
attribute [local go_sem ↓] Go.wp_at_zero Go.wp_at_succ
attribute [local go_sem] max2_int min2_int max_two min_two

theorem fromIntP_c (n : Int) (w : World) (h0 : -9223372036854775808 ≤ n) (h1 : n ≤ 9223372036854775807) (ht : P10 w) : Calls Tryz.prog 82 #[.int .i64 n] w fun e w' => e = .returned (.string ⟨(Lib.itoa n).toArray⟩) ∧ Below w.heap.size w w' := by
  have HI := Lib.hid (itoaR_c n w h0 h1 ht)
  clear ht
  go_enter Tryz.func82, Tryz.ntmps82
  go_wp2_with (go_at_call 99; (with_reducible refine HI.out.mono ?_); rintro e w' ⟨rfl, hb⟩; have HB := Lib.hid hb; clear hb)
  go_ret
  exact ⟨rfl, HB.out⟩

end Go.Proofs.YtekbfommnmikbaaGreatDoor
/- The law RealWholes: its walk. -/
namespace Go.Proofs.YtekbfommnmikbaaGreatDoor
set_option linter.unusedVariables false
set_option linter.unusedSimpArgs false
open Go.RowKit Go.Shelf Go.Proofs Go.Sort
attribute [local go_sem ↓] Go.wp_at_zero Go.wp_at_succ

theorem fromN_at (S : ByteArray) (z : Int) (w : World) (h : NumL S.data.toList z) : Calls Tryz.prog 63 #[.string S] w fun en w' => en = .returned (resS (rndS z 0)) ∧ Below w.heap.size w w' := by
  refine (fromN_c S w).mono ?_
  rintro en w' ⟨⟨y, hy, rfl⟩ | ⟨hn, _⟩, hb⟩
  · have : y = z := itoa_inj (hy.1.symm.trans h.1)
    subst this
    exact ⟨rfl, hb⟩
  · exact absurd ⟨z, h⟩ hn
end Go.Proofs.YtekbfommnmikbaaGreatDoor
