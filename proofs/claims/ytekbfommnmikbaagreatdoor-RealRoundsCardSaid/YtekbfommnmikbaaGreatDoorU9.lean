/- Texts of this claim, merged: RegV, RegP, SpC, SpF, SpD, SpE, SpI, SpJ, SpG, SpK, SpL, SpM, ProdP, ExP, RndsP, SpH, WholesL, RoundsL. -/
import Derived.Test.YtekbfommnmikbaaGreatDoorU8
import Derived.Deep.RegionLawGrows
/- A region that draws its order, whose operations have values that are known ahead, and leave what was there. -/
namespace Go.Proofs.YtekbfommnmikbaaGreatDoor
set_option linter.unusedVariables false
set_option linter.unusedSimpArgs false
open Go.RowKit

/-- What holds while such a region runs. -/
structure Jv (W : World) (ds : List Nat) (vs : List Value) (l : Array Bool) (us : Nat → Value) (w : World) : Prop where
  below : Below W.heap.size W w
  val : ∀ i, i < ds.length → l.getD i false = true → us (ds.getD i 0) = vs.getD i undef
theorem Jv.start {W : World} {ds : List Nat} {vs : List Value} {n : Nat} (us : Nat → Value) : Jv W ds vs (Array.replicate n false) us W.drew :=
  ⟨(Below.refl _ _).drew, fun i _ h => (none_listed h).elim⟩
theorem Jv.step {W w w' : World} {ds : List Nat} {vs : List Value} {l : Array Bool} {us : Nat → Value} (h : Jv W ds vs l us w) (hb : Below w.heap.size w w') (i d : Nat) (v : Value) (hi : ds.getD i 0 = d) (hv : vs.getD i undef = v) (hn : ∀ j, j < ds.length → ds.getD j 0 = d → j = i) :
    Jv W ds vs (l.setIfInBounds i true) (upd us d v) w' := by
  refine ⟨h.below.trans (hb.mono h.below.size), fun j hj hl => ?_⟩
  by_cases e : j = i
  · subst e; rw [hi, upd_same, hv]
  · rw [upd_ne us v (fun e2 => e (hn j hj e2))]
    rcases listed_or hl with h1 | h1
    · exact absurd h1 e
    · exact h.val j hj h1
/-- Slots that are all different. -/
def distinct (ds : List Nat) : Bool := (List.range ds.length).all fun i => (List.range ds.length).all fun j => decide (ds.getD j 0 = ds.getD i 0 → j = i)
theorem distinct_at {ds : List Nat} (h : distinct ds = true) {i : Nat} (hi : i < ds.length) : ∀ j, j < ds.length → ds.getD j 0 = ds.getD i 0 → j = i := fun j hj e => by
  have h1 := List.all_eq_true.1 h i (List.mem_range.2 hi)
  have h2 := List.all_eq_true.1 h1 j (List.mem_range.2 hj)
  exact of_decide_eq_true h2 e
theorem Jv.go {W w w' : World} {ds : List Nat} {vs : List Value} {l : Array Bool} {us : Nat → Value} (h : Jv W ds vs l us w) (hd : distinct ds = true) (hb : Below w.heap.size w w') (i : Nat) (hi : i < ds.length) :
    Jv W ds vs (l.setIfInBounds i true) (upd us (ds.getD i 0) (vs.getD i undef)) w' := h.step hb i _ _ rfl rfl (distinct_at hd hi)
end Go.Proofs.YtekbfommnmikbaaGreatDoor
/- A region that draws its order, whose operations have values of which something is known, and leave what was there; at its end there may be a store. -/
namespace Go.Proofs.YtekbfommnmikbaaGreatDoor
set_option linter.unusedVariables false
set_option linter.unusedSimpArgs false
open Go.RowKit

/-- Known things stay. -/
def StableL : List (World → Value → Prop) → Prop
  | [] => True
  | p :: t => (∀ (w w' : World) (v : Value), Below w.heap.size w w' → p w v → p w' v) ∧ StableL t
theorem StableL.get : ∀ {Ps : List (World → Value → Prop)}, StableL Ps → ∀ (i : Nat) {w w' : World} {v : Value}, Below w.heap.size w w' → (Ps.getD i (fun _ _ => True)) w v → (Ps.getD i (fun _ _ => True)) w' v
  | [], _, _, _, _, _, _, _ => by simp
  | p :: t, h, 0, w, w', v, hb, hp => h.1 w w' v hb hp
  | p :: t, h, i + 1, w, w', v, hb, hp => StableL.get h.2 i hb hp

/-- What holds while such a region runs. f: the store at the end (or the number of operations, if there is none). -/
structure Jp (ops : Array Oper) (W : World) (sl : List Nat) (Ps : List (World → Value → Prop)) (f : Nat) (Fin : (Nat → Value) → World → Prop) (l : Array Bool) (us : Nat → Value) (w : World) : Prop where
  size : l.size = ops.size
  cl : ∀ i j, l.getD i false = true → (predsOf ops i).contains j = true → l.getD j false = true
  below : l.getD f false = false → Below W.heap.size W w
  val : l.getD f false = false → ∀ i, i < sl.length → l.getD i false = true → (Ps.getD i (fun _ _ => True)) w (us (sl.getD i 0))
  fin : l.getD f false = true → (∀ j, j < ops.size → l.getD j false = true) ∧ Fin us w
theorem Jp.start {ops : Array Oper} {W : World} {sl : List Nat} {Ps : List (World → Value → Prop)} {f : Nat} {Fin : (Nat → Value) → World → Prop} (us : Nat → Value) : Jp ops W sl Ps f Fin (Array.replicate ops.size false) us W.drew :=
  ⟨by simp, fun i j h => (none_listed h).elim, fun _ => (Below.refl _ _).drew, fun _ i _ h => (none_listed h).elim, fun h => (none_listed h).elim⟩
theorem Jp.live {ops : Array Oper} {W w : World} {sl : List Nat} {Ps : List (World → Value → Prop)} {f i : Nat} {Fin : (Nat → Value) → World → Prop} {l : Array Bool} {us : Nat → Value} (h : Jp ops W sl Ps f Fin l us w) (hl : l.getD i true = false) (hi : i < ops.size) : l.getD f false = false := by
  cases hf : l.getD f false with
  | false => rfl
  | true => exact absurd ((h.fin hf).1 i hi) (not_listed hl)
theorem listed_set {l : Array Bool} {i j : Nat} (h : l.getD j false = true) : (l.setIfInBounds i true).getD j false = true := by
  by_cases e : i = j
  · subst e
    by_cases hi : i < l.size
    · simp [hi]
    · simp [hi] at h
  · rw [getD_set_ne false e]; exact h
theorem Jp.cl_set {ops : Array Oper} {l : Array Bool} {i : Nat} (hcl : ∀ i j, l.getD i false = true → (predsOf ops i).contains j = true → l.getD j false = true) (hp : ∀ j, (predsOf ops i).contains j = true → l.getD j false = true) :
    ∀ a j, (l.setIfInBounds i true).getD a false = true → (predsOf ops a).contains j = true → (l.setIfInBounds i true).getD j false = true := by
  intro a j ha hj
  rcases listed_or ha with rfl | h1
  · exact listed_set (hp j hj)
  · exact listed_set (hcl a j h1 hj)
theorem Jp.go {ops : Array Oper} {W w w' : World} {sl : List Nat} {Ps : List (World → Value → Prop)} {f : Nat} {Fin : (Nat → Value) → World → Prop} {l : Array Bool} {us : Nat → Value} (h : Jp ops W sl Ps f Fin l us w) (hst : StableL Ps) (hd : distinct sl = true) (i : Nat) (hf : l.getD f false = false) (hif : i ≠ f) (hi : i < sl.length) (hp : ∀ j, (predsOf ops i).contains j = true → l.getD j false = true) (hb : Below w.heap.size w w') (v : Value) (hv : (Ps.getD i (fun _ _ => True)) w' v) :
    Jp ops W sl Ps f Fin (l.setIfInBounds i true) (upd us (sl.getD i 0) v) w' := by
  have hf2 : (l.setIfInBounds i true).getD f false = false := by rw [getD_set_ne false hif]; exact hf
  refine ⟨by rw [Array.size_setIfInBounds]; exact h.size, Jp.cl_set h.cl hp, fun _ => (h.below hf).trans (hb.mono (h.below hf).size), fun _ j hj hl => ?_, fun e => by rw [hf2] at e; cases e⟩
  by_cases e : j = i
  · subst e; rw [upd_same]; exact hv
  · rw [upd_ne us v (fun e2 => e (distinct_at hd hi j hj e2))]
    rcases listed_or hl with h1 | h1
    · exact absurd h1 e
    · exact hst.get j hb (h.val hf j hj h1)
/-- No store at the end. -/
theorem Jp.nofin {ops : Array Oper} {W w : World} {sl : List Nat} {Ps : List (World → Value → Prop)} {f : Nat} {Fin : (Nat → Value) → World → Prop} {l : Array Bool} {us : Nat → Value} (h : Jp ops W sl Ps f Fin l us w) (hf : ops.size = f) : l.getD f false = false := by
  have : ¬ f < l.size := by rw [h.size]; omega
  simp [this]
/-- The region's law. -/
theorem wp_region_p {P : Program} {ops : Array Oper} {Q : Exit → Act → World → Prop} {id : Nat} {a0 : Act} {w : World} (ds sl : List Nat) (Ps : List (World → Value → Prop)) (f : Nat) (Fin : (Nat → Value) → World → Prop) (n : Nat) (hn : ops.size = n)
    (hm : P.follows .mixedOrders = true) (hb : backward ops = true)
    (he : ∀ l us w', (∀ i, i < n → l.getD i false = true) → Jp ops w sl Ps f Fin l us w' → Q .normal (At a0 ds us) w')
    (hs : AllFrom (OpStep P ops Q (fun l a w' => ∃ us, a = At a0 ds us ∧ Jp ops w sl Ps f Fin l us w')) 0 n) : (Code.region id ops true).wp P Q a0 w :=
  wp_region_at ds (Jp ops w sl Ps f Fin) n hn hm hb (fun us => by subst hn; exact Jp.start us) he hs
end Go.Proofs.YtekbfommnmikbaaGreatDoor
/- The reference of layer 2: numbers; Of, zeros, at, Order. -/
namespace Go.Proofs.YtekbfommnmikbaaGreatDoor
set_option linter.unusedVariables false
set_option linter.unusedSimpArgs false
open Go.RowKit Go.Shelf Go.Proofs
attribute [local go_sem ↓] Go.wp_at_zero Go.wp_at_succ

/-- v is the number z times 10 to the power of e. -/
def Dc (w : World) (v : Value) (z e : Int) : Prop := ∃ A n c b, v = .agg #[.slice A n c, .bool b, .int .i64 e] ∧ Ri w (.agg #[.slice A n c, .bool b]) z
theorem Dc.below {w w' : World} {v : Value} {z e : Int} (h : Dc w v z e) (hb : Below w.heap.size w w') : Dc w' v z e := by
  obtain ⟨A, n, c, b, h1, h2⟩ := h
  exact ⟨A, n, c, b, h1, h2.below hb⟩
end Go.Proofs.YtekbfommnmikbaaGreatDoor
/- The reference of layer 2: at, Order, Plus, Times, Whole, FromNumber. -/
namespace Go.Proofs.YtekbfommnmikbaaGreatDoor
set_option linter.unusedVariables false
set_option linter.unusedSimpArgs false
open Go.RowKit Go.Shelf Go.Proofs
attribute [local go_sem ↓] Go.wp_at_zero Go.wp_at_succ
attribute [local go_sem] max2_int min2_int max_two min_two

theorem Dc.drew {w : World} {v : Value} {z e : Int} (h : Dc w v z e) : Dc w.drew v z e := h.below (Below.refl _ _).drew
theorem Dc.form {w : World} {v : Value} {z e : Int} (h : Dc w v z e) : ∃ A n c b, v = .agg #[.slice A n c, .bool b, .int .i64 e] := by
  obtain ⟨A, n, c, b, h1, h2⟩ := h
  exact ⟨A, n, c, b, h1⟩
end Go.Proofs.YtekbfommnmikbaaGreatDoor
/- The reference of layer 2: half, number, signed. -/
namespace Go.Proofs.YtekbfommnmikbaaGreatDoor
set_option linter.unusedVariables false
set_option linter.unusedSimpArgs false
open Go.RowKit Go.Shelf Go.Proofs
attribute [local go_sem ↓] Go.wp_at_zero Go.wp_at_succ

/-- Digits behind a point against a half. -/
def hC (xs : List Int) : Int := sgn (2 * val 10 xs - 10 ^ xs.length)
end Go.Proofs.YtekbfommnmikbaaGreatDoor
/- The reference of layer 2: Round. -/
namespace Go.Proofs.YtekbfommnmikbaaGreatDoor
set_option linter.unusedVariables false
set_option linter.unusedSimpArgs false
open Go.RowKit Go.Shelf Go.Proofs
attribute [local go_sem ↓] Go.wp_at_zero Go.wp_at_succ

end Go.Proofs.YtekbfommnmikbaaGreatDoor
/- The reference of layer 2: Plus, Sum, Times, more. -/
namespace Go.Proofs.YtekbfommnmikbaaGreatDoor
set_option linter.unusedVariables false
set_option linter.unusedSimpArgs false
open Go.RowKit Go.Shelf Go.Proofs
attribute [local go_sem ↓] Go.wp_at_zero Go.wp_at_succ
attribute [local go_sem] max2_int min2_int max_two min_two

end Go.Proofs.YtekbfommnmikbaaGreatDoor
/- The reference of layer 2: Sum, more. -/
namespace Go.Proofs.YtekbfommnmikbaaGreatDoor
set_option linter.unusedVariables false
set_option linter.unusedSimpArgs false
open Go.RowKit Go.Shelf Go.Proofs
attribute [local go_sem ↓] Go.wp_at_zero Go.wp_at_succ

end Go.Proofs.YtekbfommnmikbaaGreatDoor
/- The reference of layer 2: Scale, Places. -/
namespace Go.Proofs.YtekbfommnmikbaaGreatDoor
set_option linter.unusedVariables false
set_option linter.unusedSimpArgs false
open Go.RowKit Go.Shelf Go.Proofs
attribute [local go_sem ↓] Go.wp_at_zero Go.wp_at_succ

end Go.Proofs.YtekbfommnmikbaaGreatDoor
/- The reference of layer 2: more, Over, Root. -/
namespace Go.Proofs.YtekbfommnmikbaaGreatDoor
set_option linter.unusedVariables false
set_option linter.unusedSimpArgs false
open Go.RowKit Go.Shelf Go.Proofs
attribute [local go_sem ↓] Go.wp_at_zero Go.wp_at_succ

end Go.Proofs.YtekbfommnmikbaaGreatDoor
/- The reference of layer 2: Over. -/
namespace Go.Proofs.YtekbfommnmikbaaGreatDoor
set_option linter.unusedVariables false
set_option linter.unusedSimpArgs false
open Go.RowKit Go.Shelf Go.Proofs
attribute [local go_sem ↓] Go.wp_at_zero Go.wp_at_succ

end Go.Proofs.YtekbfommnmikbaaGreatDoor
/- The reference of layer 2: Root. -/
namespace Go.Proofs.YtekbfommnmikbaaGreatDoor
set_option linter.unusedVariables false
set_option linter.unusedSimpArgs false
open Go.RowKit Go.Shelf Go.Proofs
attribute [local go_sem ↓] Go.wp_at_zero Go.wp_at_succ

end Go.Proofs.YtekbfommnmikbaaGreatDoor
/- Plain laws: what Div and Root round is what the reference rounds. -/
namespace Go.Proofs.YtekbfommnmikbaaGreatDoor
set_option linter.unusedVariables false
set_option linter.unusedSimpArgs false

end Go.Proofs.YtekbfommnmikbaaGreatDoor
/- Plain laws: whole numbers of at most 12 digits are exact; a difference of two reals that are near each other is exact. -/
namespace Go.Proofs.YtekbfommnmikbaaGreatDoor
set_option linter.unusedVariables false
set_option linter.unusedSimpArgs false

/-- How many zeros a whole number gets. -/
def wj (n : Int) : Nat := if n = 0 then 0 else 12 - nd n.natAbs
theorem wj_le (n : Int) : wj n ≤ 11 := by
  unfold wj
  split
  · omega
  · have := nd_pos (show 0 < n.natAbs by omega); omega
/-- A number of at most 12 digits is not rounded. -/
theorem rnd_exact {v e : Int} (h : v.natAbs < 1000000000000) (he : -100 ≤ e) (he2 : e ≤ 88) : rndS v e = some (v * 10 ^ wj v, if v = 0 then 0 else e - (wj v : Int)) ∧ RV (v * 10 ^ wj v).natAbs (if v = 0 then 0 else e - (wj v : Int)) := by
  by_cases h0 : v = 0
  · subst h0
    rw [rndS_zero, if_pos rfl, Int.zero_mul]
    exact ⟨rfl, .inl ⟨rfl, rfl⟩⟩
  · have hv : 0 < v.natAbs := by omega
    have hn := (nd_le v.natAbs 12).2 h
    have hp := nd_pos hv
    have hj : wj v = 12 - nd v.natAbs := by unfold wj; rw [if_neg h0]
    have hjl := wj_le v
    have hnd := nd_pow hv (wj v)
    have hna : (v * 10 ^ wj v).natAbs = v.natAbs * 10 ^ wj v := by rw [Int.natAbs_mul, Int.natAbs_pow]; rfl
    have hrv : RV (v * 10 ^ wj v).natAbs (e - (wj v : Int)) := by
      rw [hna]
      have h12 : nd (v.natAbs * 10 ^ wj v) = 12 := by rw [hnd]; omega
      have hlow := nd_low (n := v.natAbs * 10 ^ wj v) (Nat.mul_pos hv (Nat.pow_pos (by decide)))
      have hlt := lt_nd (v.natAbs * 10 ^ wj v)
      rw [h12] at hlow hlt
      exact .inr ⟨hlow, hlt, by omega, by omega⟩
    rw [if_neg h0]
    refine ⟨?_, hrv⟩
    rw [← rndS_mul v (wj v) e]
    exact rndS_self hrv
end Go.Proofs.YtekbfommnmikbaaGreatDoor
/- Plain laws: what is rounded to a place is a multiple of it, and near. -/
namespace Go.Proofs.YtekbfommnmikbaaGreatDoor
set_option linter.unusedVariables false
set_option linter.unusedSimpArgs false

/-- What is rounded is a multiple of the power that it was given at. -/
theorem fit_val {M m : Nat} {x0 x : Int} (h : fit M x0 = some (m, x)) : (m = M ∧ x = x0) ∨ (M = 1000000000000 ∧ m = 100000000000 ∧ x = x0 + 1) := by
  unfold fit at h
  split at h
  · split at h
    · cases h
    · cases h; right; exact ⟨by assumption, rfl, rfl⟩
  · split at h
    · cases h
    · cases h; left; exact ⟨rfl, rfl⟩
theorem rnd_mult {n m : Nat} {e x : Int} (h : rnd n e = some (m, x)) : ∃ t : Nat, ∀ d : Int, d ≤ e → d ≤ x → m * 10 ^ (x - d).toNat = t * 10 ^ (e - d).toNat := by
  unfold rnd at h
  split at h
  · cases h; exact ⟨0, fun d _ _ => by rw [Nat.zero_mul, Nat.zero_mul]⟩
  · split at h
    · rename_i hb
      split at h
      · cases h
        refine ⟨10 ^ nd n, fun d h1 h2 => ?_⟩
        rw [show (100000000000 : Nat) = 10 ^ 11 from rfl, ← Nat.pow_add, ← Nat.pow_add]
        congr 1; omega
      · cases h; exact ⟨0, fun d _ _ => by rw [Nat.zero_mul, Nat.zero_mul]⟩
    · have key : ∃ t : Nat, ∀ d : Int, d ≤ e → d ≤ (nd n : Int) - 12 + e → man12 n * 10 ^ ((nd n : Int) - 12 + e - d).toNat = t * 10 ^ (e - d).toNat := by
        unfold man12
        split
        · rename_i hc
          refine ⟨n, fun d h1 h2 => ?_⟩
          rw [Nat.mul_assoc, ← Nat.pow_add]; congr 2; omega
        · rename_i hc
          refine ⟨rdiv n (nd n - 12) * 10 ^ (nd n - 12), fun d h1 h2 => ?_⟩
          rw [Nat.mul_assoc, ← Nat.pow_add]; congr 2; omega
      obtain ⟨t, ht⟩ := key
      rcases fit_val h with ⟨rfl, rfl⟩ | ⟨h1, rfl, rfl⟩
      · exact ⟨t, ht⟩
      · by_cases hd : True
        · rw [h1] at ht
          by_cases hx : e ≤ (nd n : Int) - 12 + e
          · refine ⟨t, fun d g1 g2 => ?_⟩
            have := ht d g1 (by omega)
            rw [← this, show (1000000000000 : Nat) = 100000000000 * 10 from rfl, Nat.mul_assoc, ← Nat.pow_succ']
            congr 2; omega
          · refine ⟨t, fun d g1 g2 => ?_⟩
            by_cases g3 : d ≤ (nd n : Int) - 12 + e
            · have := ht d g1 g3
              rw [← this, show (1000000000000 : Nat) = 100000000000 * 10 from rfl, Nat.mul_assoc, ← Nat.pow_succ']
              congr 2; omega
            · have h3 := ht (d - 1) (by omega) (by omega)
              rw [show (nd n : Int) - 12 + e - (d - 1) = 0 by omega, show (e - (d - 1)).toNat = (e - d).toNat + 1 by omega, Nat.pow_succ] at h3
              rw [show (nd n : Int) - 12 + e + 1 - d = 0 by omega]
              simp only [Int.toNat_zero, Nat.pow_zero, Nat.mul_one] at h3 ⊢
              rw [← Nat.mul_assoc] at h3
              omega
        · exact absurd trivial hd
theorem rndS_mult {v e a b : Int} (h : rndS v e = some (a, b)) : ∃ t : Int, ∀ d : Int, d ≤ e → d ≤ b → a * 10 ^ (b - d).toNat = t * 10 ^ (e - d).toNat := by
  obtain ⟨m, hr, rfl⟩ := rndS_some h
  obtain ⟨t, ht⟩ := rnd_mult hr
  have hc : ∀ d : Int, d ≤ e → d ≤ b → (m : Int) * 10 ^ (b - d).toNat = (t : Int) * 10 ^ (e - d).toNat := fun d h1 h2 => by
    have := ht d h1 h2
    have h3 : ((m * 10 ^ (b - d).toNat : Nat) : Int) = ((t * 10 ^ (e - d).toNat : Nat) : Int) := by rw [this]
    rw [Int.natCast_mul, Int.natCast_mul, Int.natCast_pow, Int.natCast_pow] at h3
    exact h3
  by_cases hs : v < 0
  · refine ⟨-(t : Int), fun d h1 h2 => ?_⟩
    rw [decide_eq_true hs]
    unfold sgm
    rw [if_pos rfl, Int.neg_mul, Int.neg_mul, hc d h1 h2]
  · refine ⟨t, fun d h1 h2 => ?_⟩
    rw [decide_eq_false hs]
    unfold sgm
    rw [if_neg (by decide)]
    exact hc d h1 h2
/-- A multiple is rounded to itself. -/
theorem mult_round {t e a b : Int} (hv : RV a.natAbs b) (h : ∀ d : Int, d ≤ e → d ≤ b → a * 10 ^ (b - d).toNat = t * 10 ^ (e - d).toNat) : rndS t e = some (a, b) := by
  obtain ⟨d, h1, h2⟩ : ∃ d : Int, d ≤ e ∧ d ≤ b := ⟨(if e < b then e else b), by split <;> omega, by split <;> omega⟩
  rw [← rndS_scale t h1, ← h d h1 h2, rndS_scale a h2, rndS_self hv]
theorem rdiv_exact (t k : Nat) : rdiv (t * 10 ^ k) k = t := by
  have := rdiv_mul t 0 k
  rw [Nat.zero_add] at this
  rw [this, rdiv_zero]
theorem rqS_mult {t p a b : Int} (hv : RV a.natAbs b) (h : ∀ d : Int, d ≤ -p → d ≤ b → a * 10 ^ (b - d).toNat = t * 10 ^ (-p - d).toNat) : rqS (vR a b) p = t := by
  have hb := RV_exp hv
  have hsg : ∀ {k : Nat} {u v : Int}, u = v * 10 ^ k → (u < 0 ↔ v < 0) := fun {k u v} e => by
    have hp : (0 : Int) < 10 ^ k := Int.pow_pos (by decide)
    rw [e]
    constructor
    · intro h1
      by_cases h2 : v < 0
      · exact h2
      · have := Int.mul_nonneg (Int.not_lt.1 h2) (Int.le_of_lt hp); omega
    · intro h1; exact Int.mul_neg_of_neg_of_pos h1 hp
  by_cases hp : p ≤ 111
  · have e1 : vR a b = t * 10 ^ (111 - p).toNat := by
      have := h (-111) (by omega) (by omega)
      unfold vR
      rw [show b - -111 = b + 111 by omega, show -p - -111 = 111 - p by omega] at this
      exact this
    have hs := hsg e1
    have hq : rqN (vR a b).natAbs p = t.natAbs := by
      unfold rqN
      rw [if_pos hp, e1, Int.natAbs_mul, Int.natAbs_pow]
      exact rdiv_exact _ _
    unfold rqS
    rw [hq]
    by_cases h0 : vR a b < 0
    · rw [if_pos h0]; have := hs.1 h0; omega
    · rw [if_neg h0]; have : ¬ t < 0 := fun x => h0 (hs.2 x); omega
  · have e1 : vR a b * 10 ^ (p - 111).toNat = t := by
      have := h (-p) (by omega) (by omega)
      rw [show -p - -p = (0 : Int) by omega, Int.toNat_zero, Int.pow_zero, Int.mul_one] at this
      rw [← this]
      unfold vR
      rw [Int.mul_assoc, ← Int.pow_add]; congr 2; omega
    have hs := hsg e1.symm
    have hq : (rqN (vR a b).natAbs p : Int) = t.natAbs := by
      unfold rqN
      rw [if_neg hp, ← e1, Int.natAbs_mul, Int.natAbs_pow]; rfl
    unfold rqS
    rw [hq]
    by_cases h0 : vR a b < 0
    · rw [if_pos h0]; have := hs.2 h0; omega
    · rw [if_neg h0]; have : ¬ t < 0 := fun x => h0 (hs.1 x); omega
/-- The result of Round. -/
theorem round_form2 (xm xe p : Int) : ∃ a b er, roundR xm xe p = .tuple #[.agg #[.int .i64 a, .int .i64 b], .int .i64 er] ∧ (er ≠ 0 → a = 0 ∧ b = 0) ∧ (er = 0 → RV xm.natAbs xe ∧ ¬ (1000 < p ∨ p < -1000) ∧ RV a.natAbs b ∧ rndS (rqS (vR xm xe) p) (-p) = some (a, b)) := by
  by_cases hx : RV xm.natAbs xe
  · by_cases hp : 1000 < p ∨ p < -1000
    · exact ⟨0, 0, 1, by unfold roundR; rw [if_neg (fun x => x hx), if_pos hp], fun _ => ⟨rfl, rfl⟩, fun h => absurd h (by decide)⟩
    · rw [round_form hx hp]
      cases hr : rndS (rqS (vR xm xe) p) (-p) with
      | none => exact ⟨0, 0, 3, rfl, fun _ => ⟨rfl, rfl⟩, fun h => absurd h (by decide)⟩
      | some q =>
        obtain ⟨a, b⟩ := q
        exact ⟨a, b, 0, rfl, fun h => absurd rfl h, fun _ => ⟨hx, hp, rndS_valid hr, rfl⟩⟩
  · exact ⟨0, 0, 1, by unfold roundR; rw [if_pos hx], fun _ => ⟨rfl, rfl⟩, fun h => absurd h (by decide)⟩
/-- Rounding what is rounded changes nothing. -/
theorem round_again {xm xe p a b : Int} (hp : ¬ (1000 < p ∨ p < -1000)) (hv : RV a.natAbs b) (hr : rndS (rqS (vR xm xe) p) (-p) = some (a, b)) : roundR a b p = .tuple #[.agg #[.int .i64 a, .int .i64 b], .int .i64 0] := by
  obtain ⟨t, ht⟩ := rndS_mult hr
  rw [round_form hv hp, rqS_mult hv ht, mult_round hv ht]
  rfl
/-- What is rounded to a whole is one. -/
theorem round_whole {xm xe a b : Int} (hv : RV a.natAbs b) (hr : rndS (rqS (vR xm xe) 0) (-0) = some (a, b)) : rndS (floorV a b) 0 = some (a, b) := by
  obtain ⟨t, ht⟩ := rndS_mult hr
  rw [show (-0 : Int) = 0 from rfl] at ht
  have hfl : floorV a b = t := by
    unfold floorV
    by_cases h0 : 0 ≤ b
    · rw [if_pos h0]
      have := ht 0 (Int.le_refl _) h0
      rw [show b - 0 = b by omega, show (0 : Int) - 0 = 0 from rfl, Int.toNat_zero, Int.pow_zero, Int.mul_one] at this
      exact this
    · rw [if_neg h0]
      have := ht b (by omega) (Int.le_refl _)
      rw [show b - b = 0 by omega, Int.toNat_zero, Int.pow_zero, Int.mul_one, show 0 - b = -b by omega] at this
      rw [this]
      exact Int.mul_fdiv_cancel _ (Int.ne_of_gt (Int.pow_pos (by decide)))
  rw [hfl]
  exact mult_round hv ht
theorem exact_at {v e a b d : Int} (h : v.natAbs < 1000000000000) (he : -100 ≤ e) (he2 : e ≤ 88) (hr : rndS v e = some (a, b)) (h1 : d ≤ e) (h2 : d ≤ b) : a * 10 ^ (b - d).toNat = v * 10 ^ (e - d).toNat := by
  obtain ⟨g1, g2⟩ := rnd_exact h he he2
  rw [hr] at g1
  simp only [Option.some.injEq, Prod.mk.injEq] at g1
  obtain ⟨rfl, rfl⟩ := g1
  by_cases h0 : v = 0
  · subst h0; rw [Int.zero_mul, Int.zero_mul, Int.zero_mul]
  · rw [if_neg h0] at h2 ⊢
    rw [Int.mul_assoc, ← Int.pow_add]
    congr 2; omega
theorem rdiv_near (n k : Nat) : 2 * n ≤ 2 * (rdiv n k * 10 ^ k) + 10 ^ k ∧ 2 * (rdiv n k * 10 ^ k) ≤ 2 * n + 10 ^ k := by
  unfold rdiv halfUp
  have h := Nat.div_add_mod n (10 ^ k)
  have hl := Nat.mod_lt n (Nat.pow_pos (n := k) (show 0 < 10 by decide))
  generalize n / 10 ^ k = q at *
  generalize n % 10 ^ k = r at *
  generalize 10 ^ k = P at *
  have e : ∀ x, (q + x) * P = P * q + x * P := fun x => by rw [Nat.add_mul, Nat.mul_comm q P]
  rw [e]
  split
  · rename_i h2; rw [Nat.one_mul]; omega
  · rename_i h2; rw [Nat.zero_mul]; omega
/-- What is rounded is near. -/
theorem round_near {xm xe p a b lo : Int} (hx : RV xm.natAbs xe) (h0 : -40 ≤ p) (h1 : p ≤ 40) (hr : rndS (rqS (vR xm xe) p) (-p) = some (a, b)) (l1 : lo ≤ xe) (l2 : lo ≤ b) (l3 : lo ≤ -p) :
    2 * ((xm * 10 ^ (xe - lo).toNat + -(a * 10 ^ (b - lo).toNat)).natAbs : Int) ≤ 10 ^ (-p - lo).toNat := by
  have ex := RV_exp hx
  have hm : xm.natAbs < 1000000000000 := by unfold RV at hx; omega
  have hP : (0 : Int) < 10 ^ (-p - lo).toNat := Int.pow_pos (by decide)
  by_cases c : -p - xe ≤ 0
  · have hq : rndS (rqS (vR xm xe) p) (-p) = some (xm, xe) := by
      have hn := rqN_keep (m := xm.natAbs) ex.1 c
      have e1 : rqS (vR xm xe) p = xm * 10 ^ (xe + p).toNat := by
        unfold rqS
        rw [vR_abs, hn]
        have e2 : ((xm.natAbs * 10 ^ (xe + p).toNat : Nat) : Int) = (xm.natAbs : Int) * 10 ^ (xe + p).toNat := by rw [Int.natCast_mul, Int.natCast_pow]; rfl
        rw [e2]
        by_cases hmm : xm < 0
        · rw [if_pos ((vR_neg xm xe).2 hmm), ← Int.neg_mul]; congr 1; omega
        · rw [if_neg (fun x => hmm ((vR_neg xm xe).1 x))]; congr 1; omega
      rw [e1]
      have := rndS_scale xm (show -p ≤ xe by omega)
      rw [show xe - -p = xe + p by omega] at this
      rw [this, rndS_self hx]
    rw [hq] at hr
    simp only [Option.some.injEq, Prod.mk.injEq] at hr
    obtain ⟨rfl, rfl⟩ := hr
    rw [Int.add_right_neg]
    simp
    exact Int.le_of_lt hP
  · obtain ⟨k, hk⟩ : ∃ k : Nat, -p - xe = (k : Int) := ⟨(-p - xe).toNat, by omega⟩
    have hcut := rqN_cut (m := xm.natAbs) (p := p) ex.1 (by omega)
    rw [hk, Int.toNat_natCast] at hcut
    have hnr := rdiv_near xm.natAbs k
    obtain ⟨q, hq⟩ : ∃ q, rdiv xm.natAbs k = q := ⟨_, rfl⟩
    rw [hq] at hcut hnr
    have hk1 : 10 ≤ 10 ^ k := by
      obtain ⟨j, rfl⟩ : ∃ j, k = j + 1 := ⟨k - 1, by omega⟩
      rw [Nat.pow_succ]
      have := Nat.pow_pos (n := j) (show 0 < 10 by decide)
      omega
    have hql : q < 1000000000000 := by
      have h2 := Nat.mul_le_mul_left q hk1
      rcases Nat.lt_or_ge q 1000000000000 with h3 | h3
      · exact h3
      · exfalso
        have h4 : q * 10 ^ k ≤ 2 * xm.natAbs := by
          have h5 : 10 ^ k ≤ q * 10 ^ k := Nat.le_mul_of_pos_left _ (by omega)
          omega
        omega
    have e1 : rqS (vR xm xe) p = if xm < 0 then -(q : Int) else q := by
      unfold rqS
      rw [vR_abs, hcut]
      by_cases hmm : xm < 0
      · rw [if_pos ((vR_neg xm xe).2 hmm), if_pos hmm]
      · rw [if_neg (fun x => hmm ((vR_neg xm xe).1 x)), if_neg hmm]
    rw [e1] at hr
    have hat := exact_at (d := lo) (by split <;> omega) (by omega) (by omega) hr l3 l2
    rw [hat]
    have e2 : (10 : Int) ^ (-p - lo).toNat = 10 ^ k * 10 ^ (xe - lo).toNat := by
      rw [← Int.pow_add]; congr 1; omega
    rw [e2]
    have hQ : (0 : Int) < 10 ^ (xe - lo).toNat := Int.pow_pos (by decide)
    have hK : ((10 ^ k : Nat) : Int) = (10 : Int) ^ k := by rw [Int.natCast_pow]; rfl
    rw [← hK]
    generalize (10 : Int) ^ (xe - lo).toNat = Q at *
    generalize 10 ^ k = K at *
    have e3 : xm * Q + -((if xm < 0 then -(q : Int) else q) * ((K : Int) * Q)) = (xm - (if xm < 0 then -(q : Int) else q) * (K : Int)) * Q := by grind
    rw [e3, Int.natAbs_mul, Int.natCast_mul, show ((Q.natAbs : Nat) : Int) = Q by omega, ← Int.mul_assoc]
    refine Int.mul_le_mul_of_nonneg_right ?_ (Int.le_of_lt hQ)
    have e4 : ((q * K : Nat) : Int) = (q : Int) * K := by rw [Int.natCast_mul]
    by_cases hmm : xm < 0
    · rw [if_pos hmm, Int.neg_mul, ← e4]; omega
    · rw [if_neg hmm, ← e4]; omega
end Go.Proofs.YtekbfommnmikbaaGreatDoor
/- The reference of layer 2: Whole, FromNumber, Floor. -/
namespace Go.Proofs.YtekbfommnmikbaaGreatDoor
set_option linter.unusedVariables false
set_option linter.unusedSimpArgs false
open Go.RowKit Go.Shelf Go.Proofs
attribute [local go_sem ↓] Go.wp_at_zero Go.wp_at_succ

end Go.Proofs.YtekbfommnmikbaaGreatDoor
/- The law RealWholes: its walk. -/
namespace Go.Proofs.YtekbfommnmikbaaGreatDoor
set_option linter.unusedVariables false
set_option linter.unusedSimpArgs false
open Go.RowKit Go.Shelf Go.Proofs Go.Sort
attribute [local go_sem ↓] Go.wp_at_zero Go.wp_at_succ

theorem fromN_at (S : ByteArray) (z : Int) (w : World) (h : NumL S.data.toList z) : Calls Tryz.prog 63 #[.string S] w fun en w' => en = .returned (resS (rndS z 0)) ∧ Below w.heap.size w w' := by
  refine (fromN_c S w).mono ?_
  rintro en w' ⟨⟨y, hy, rfl⟩ | ⟨hn, _⟩, hb⟩
  · have : y = z := itoa_inj (hy.1.symm.trans h.1)
    subst this
    exact ⟨rfl, hb⟩
  · exact absurd ⟨z, h⟩ hn
end Go.Proofs.YtekbfommnmikbaaGreatDoor
/- The law RealRounds: its walk. -/
namespace Go.Proofs.YtekbfommnmikbaaGreatDoor
set_option linter.unusedVariables false
set_option linter.unusedSimpArgs false
open Go.RowKit Go.Shelf Go.Proofs Go.Sort
attribute [local go_sem ↓] Go.wp_at_zero Go.wp_at_succ

theorem floor_num2 {m e : Int} (h : RV m.natAbs e) : (floorV m e).natAbs < 10 ^ 200 := by
  have he := RV_exp h
  have hm : m.natAbs < 1000000000000 := by unfold RV at h; omega
  have big : (1000000000000 : Nat) * 10 ^ 88 ≤ 10 ^ 200 := by
    have : (1000000000000 : Nat) = 10 ^ 12 := rfl
    rw [this, ← Nat.pow_add]
    exact Nat.pow_le_pow_right (by decide) (by decide)
  have one : 1 ≤ 10 ^ 88 := Nat.pow_pos (by decide)
  unfold floorV
  by_cases h0 : 0 ≤ e
  · rw [if_pos h0]
    have e1 : (m * 10 ^ e.toNat).natAbs = m.natAbs * 10 ^ e.toNat := by rw [Int.natAbs_mul, Int.natAbs_pow]; rfl
    rw [e1]
    have h1 : (10 : Nat) ^ e.toNat ≤ 10 ^ 88 := Nat.pow_le_pow_right (by decide) (by omega)
    have h2 := Nat.mul_le_mul_left m.natAbs h1
    have h3 : m.natAbs * 10 ^ 88 < 1000000000000 * 10 ^ 88 := Nat.mul_lt_mul_of_pos_right hm one
    omega
  · rw [if_neg h0]
    have hq : (0 : Int) < 10 ^ (-e).toNat := Int.pow_pos (by decide)
    rw [Int.fdiv_eq_ediv_of_nonneg _ (Int.le_of_lt hq)]
    have h4 : (m / 10 ^ (-e).toNat).natAbs ≤ m.natAbs := Int.natAbs_ediv_le_natAbs _ _
    have h5 : 1000000000000 * 1 ≤ 1000000000000 * 10 ^ 88 := Nat.mul_le_mul_left _ one
    omega
theorem at_fit {m e lo : Int} (hm : m.natAbs < 1000000000000) (h : e - lo ≤ 180) : (m * 10 ^ (e - lo).toNat).natAbs < 10 ^ 199 := by
  have e1 : (m * 10 ^ (e - lo).toNat).natAbs = m.natAbs * 10 ^ (e - lo).toNat := by rw [Int.natAbs_mul, Int.natAbs_pow]; rfl
  rw [e1]
  have h1 : (10 : Nat) ^ (e - lo).toNat ≤ 10 ^ 180 := Nat.pow_le_pow_right (by decide) (by omega)
  have one : 1 ≤ 10 ^ 180 := Nat.pow_pos (by decide)
  have h3 : m.natAbs * 10 ^ 180 < 10 ^ 12 * 10 ^ 180 := Nat.mul_lt_mul_of_pos_right (by omega) one
  have h2 := Nat.mul_le_mul_left m.natAbs h1
  rw [← Nat.pow_add] at h3
  have h4 : (10 : Nat) ^ (12 + 180) ≤ 10 ^ 199 := Nat.pow_le_pow_right (by decide) (by decide)
  omega
theorem nine_ten {a b : Nat} (ha : a < 10 ^ 199) (hb : b < 10 ^ 199) : a + b < 10 ^ 200 ∧ a < 10 ^ 200 := by
  have : (10 : Nat) ^ 200 = 10 ^ 199 * 10 := Nat.pow_succ ..
  omega
theorem sgn_le2 {x y : Int} (h : x ≤ y) : sgn (x + -y) ≤ 0 := by
  unfold sgn; split
  · decide
  · split
    · omega
    · decide
theorem closeB_two {a b c d : Int} (h : closeB [(a, b), (c, d)] = true) : (-40 ≤ b ∧ b ≤ 30) ∧ (-40 ≤ d ∧ d ≤ 30) := by
  unfold closeB at h
  simp at h
  omega

set_option maxRecDepth 100000 in
set_option maxHeartbeats 16000000 in
theorem rounds_walk (xm xe p : Int) (w : World) (ht : P10 w) (htb : Tabs w) (hx0 : -9223372036854775808 ≤ xm) (hx1 : xm ≤ 9223372036854775807) :
    Calls Tryz.prog 16 #[.agg #[.int .i64 xm, .int .i64 xe], .int .i64 p] w fun en w' => en = .returned (.bool true) ∧ Below w.heap.size w w' := by
  obtain ⟨W, hW, k0, hbel⟩ := bx1h w #[.int .i64 xm, .int .i64 xe] 23
  have HBEL := Lib.hid hbel
  have HT := Lib.hid (ht.below hbel)
  have HTB := Lib.hid (htb.below hbel)
  obtain ⟨c0, c1⟩ := two_cells k0
  have HSAN : Hid (∀ w' : World, P10 w' → Calls Tryz.prog 25 #[] w' fun e w2 => e = .returned (.bool true) ∧ Below w'.heap.size w' w2) := sanityR_c
  obtain ⟨a, b, er, hf1, hz1, hr1⟩ := round_form2 xm xe p
  have HRO := Lib.hid (fun w' => roundR_c xm xe p w' hx0 hx1)
  rw [hf1] at HRO
  clear k0 hbel
  by_cases her : er = 0
  rotate_left
  · obtain ⟨rfl, rfl⟩ := hz1 her
    have hnb : (er != 0) = true := by simp [her]
    clear hz1 hr1 hf1
    go_enter Tryz.func16, Tryz.ntmps16
    go_wp2_with (first
      | (go_at_call 19; (with_reducible refine (HRO.out _).mono ?_); rintro en w2 ⟨rfl, hbz⟩; have HB := Lib.hid hbz; clear hbz)
      | (go_at_call 25; (with_reducible refine (HSAN.out _ (HT.out.below (belowA HB.out _))).mono ?_); rintro en w3 ⟨rfl, hbz⟩; obtain ⟨q0, q1⟩ := two_cells (heapB hbz (heap_alloc_new _ _)); have Aq0 := fun o => keep_cell ((Below.refl _ _).alloc (Nat.le_refl _) o) q0; have Aq1 := fun o => keep_cell ((Below.refl _ _).alloc (Nat.le_refl _) o) q1; have HB := Lib.hid (belowT (belowA HB.out _) hbz); clear hbz))
    go_ret
    exact ⟨rfl, belowT HBEL.out HB.out⟩
  subst her
  obtain ⟨hx, hp, hv, hr⟩ := hr1 rfl
  have hab : -9223372036854775808 ≤ a ∧ a ≤ 9223372036854775807 := by unfold RV at hv; omega
  have HRA := Lib.hid (fun w' => roundR_c a b p w' hab.1 hab.2)
  rw [round_again hp hv hr] at HRA
  obtain ⟨c, d, er0, hf0, hz0, hr0⟩ := round_form2 xm xe 0
  have HR0 := Lib.hid (fun w' => roundR_c xm xe 0 w' hx0 hx1)
  rw [hf0] at HR0
  have HWH : Hid (er0 = 0 → (∀ w', P10 w' → Calls Tryz.prog 64 #[.agg #[.int .i64 c, .int .i64 d]] w' fun en w2 => en = .returned (.tuple #[.string (txI (floorV c d)), .int .i64 0]) ∧ Below w'.heap.size w' w2) ∧ (∀ w', Calls Tryz.prog 63 #[.string (txI (floorV c d))] w' fun en w2 => en = .returned (.tuple #[.agg #[.int .i64 c, .int .i64 d], .int .i64 0]) ∧ Below w'.heap.size w' w2)) := fun h => by
    obtain ⟨_, _, hcv, hcr⟩ := hr0 h
    have hcb : -9223372036854775808 ≤ c ∧ c ≤ 9223372036854775807 := by unfold RV at hcv; omega
    refine ⟨fun w' ht' => ?_, fun w' => ?_⟩
    · have := floorR_c c d w' hcb.1 hcb.2 ht'
      unfold floorR at this
      rw [if_pos hcv] at this
      exact this
    · have := fromN_at (txI (floorV c d)) (floorV c d) w' (txI_num (floor_num2 hcv))
      rw [round_whole hcv hcr] at this
      exact this
  have HNR : Hid (-40 ≤ p → p ≤ 40 → ∀ lo : Int, lo ≤ xe → lo ≤ b → lo ≤ -p → 2 * ((xm * 10 ^ (xe - lo).toNat + -(a * 10 ^ (b - lo).toNat)).natAbs : Int) ≤ 10 ^ (-p - lo).toNat) := fun g0 g1 lo l1 l2 l3 => round_near hx g0 g1 hr l1 l2 l3
  have HXM : Hid (xm.natAbs < 1000000000000 ∧ a.natAbs < 1000000000000) := ⟨by unfold RV at hx; omega, by unfold RV at hv; omega⟩
  have HPB := Lib.hid hp
  clear hz1 hr1 hf1 hx hp hv hr hf0 hz0 hr0
  go_enter Tryz.func16, Tryz.ntmps16
  go_upto_if 54 with (first
    | (go_at_call 19; (with_reducible refine (HRO.out _).mono ?_); rintro en w2 ⟨rfl, hbz⟩; have c0 := keep_cell hbz c0; have c1 := keep_cell hbz c1; have Ac0 := fun o => keep_cell ((Below.refl _ _).alloc (Nat.le_refl _) o) c0; have Ac1 := fun o => keep_cell ((Below.refl _ _).alloc (Nat.le_refl _) o) c1; have HB := Lib.hid hbz; clear hbz)
    | (go_at_call 19; (with_reducible refine (HRA.out _).mono ?_); rintro en w3 ⟨rfl, hbz⟩; have c0 := keep_cell hbz (keep_cell ((Below.refl _ _).alloc (Nat.le_refl _) _) c0); have c1 := keep_cell hbz (keep_cell ((Below.refl _ _).alloc (Nat.le_refl _) _) c1); obtain ⟨q0, q1⟩ := two_cells (heapB hbz (heap_alloc_new _ _)); have Ac0 := fun o => keep_cell ((Below.refl _ _).alloc (Nat.le_refl _) o) c0; have Ac1 := fun o => keep_cell ((Below.refl _ _).alloc (Nat.le_refl _) o) c1; have Aq0 := fun o => keep_cell ((Below.refl _ _).alloc (Nat.le_refl _) o) q0; have Aq1 := fun o => keep_cell ((Below.refl _ _).alloc (Nat.le_refl _) o) q1; have HB := Lib.hid (belowT (belowA HB.out _) hbz); clear hbz)
    | (go_at_call 19; (with_reducible refine (HR0.out _).mono ?_); rintro en w4 ⟨rfl, hbz⟩; have c0 := keep_cell hbz (keep_cell ((Below.refl _ _).alloc (Nat.le_refl _) _) c0); have c1 := keep_cell hbz (keep_cell ((Below.refl _ _).alloc (Nat.le_refl _) _) c1); have q0 := keep_cell hbz (keep_cell ((Below.refl _ _).alloc (Nat.le_refl _) _) q0); have q1 := keep_cell hbz (keep_cell ((Below.refl _ _).alloc (Nat.le_refl _) _) q1); obtain ⟨r0, r1⟩ := two_cells (heapB hbz (heap_alloc_new _ _)); have Ac0 := fun o => keep_cell ((Below.refl _ _).alloc (Nat.le_refl _) o) c0; have Ac1 := fun o => keep_cell ((Below.refl _ _).alloc (Nat.le_refl _) o) c1; have Aq0 := fun o => keep_cell ((Below.refl _ _).alloc (Nat.le_refl _) o) q0; have Aq1 := fun o => keep_cell ((Below.refl _ _).alloc (Nat.le_refl _) o) q1; have Ar0 := fun o => keep_cell ((Below.refl _ _).alloc (Nat.le_refl _) o) r0; have Ar1 := fun o => keep_cell ((Below.refl _ _).alloc (Nat.le_refl _) o) r1; have HB := Lib.hid (belowT (belowA HB.out _) hbz); clear hbz))
  obtain ⟨Z1, hZ1⟩ : ∃ Z, w4.alloc (.cells #[.int .i64 c, .int .i64 d] 23) = Z := ⟨_, rfl⟩
  rw [hZ1]
  have c0 := (show Z1.cell? _ = _ from hZ1 ▸ Ac0 _); have c1 := (show Z1.cell? _ = _ from hZ1 ▸ Ac1 _)
  have q0 := (show Z1.cell? _ = _ from hZ1 ▸ Aq0 _); have q1 := (show Z1.cell? _ = _ from hZ1 ▸ Aq1 _)
  have hn := heap_alloc_new w4 (.cells #[.int .i64 c, .int .i64 d] 23)
  rw [hZ1] at hn
  obtain ⟨v0, v1⟩ := two_cells hn
  have HB := Lib.hid (belowA HB.out (.cells #[.int .i64 c, .int .i64 d] 23))
  rw [hZ1] at HB
  clear hZ1 hn Ac0 Ac1 Aq0 Aq1 Ar0 Ar1 r0 r1 HRO HRA HR0
  have HBZ := HB
  clear HB
  go_cut [10, 11, 12, 13] from 54 to 75 (fun v10 v11 v12 v13 wx => Hid (Below Z1.heap.size Z1 wx))
  case first =>
    by_cases h0 : er0 = 0
    · subst h0
      obtain ⟨g1, g2⟩ := HWH.out rfl
      have HFL := Lib.hid g1; have HFN := Lib.hid g2
      obtain ⟨U, hU⟩ : ∃ U, txI (floorV c d) = U := ⟨_, rfl⟩
      rw [hU] at HFL HFN
      clear g1 g2 hU HWH
      go_wp2_with (first
        | (go_at_call 64; (with_reducible refine (HFL.out _ (HT.out.below HBZ.out)).mono ?_); rintro en w5 ⟨rfl, hbz⟩; have v0 := keep_cell hbz v0; have v1 := keep_cell hbz v1; have HB := Lib.hid hbz; clear hbz)
        | (go_at_call 63; (with_reducible refine (HFN.out _).mono ?_); rintro en w6 ⟨rfl, hbz⟩; have v0 := keep_cell hbz v0; have v1 := keep_cell hbz v1; have Av0 := fun o => keep_cell ((Below.refl _ _).alloc (Nat.le_refl _) o) v0; have Av1 := fun o => keep_cell ((Below.refl _ _).alloc (Nat.le_refl _) o) v1; have HB := Lib.hid (belowT HB.out hbz); clear hbz))
      go_meet
      exact belowA HB.out _
    · have hnb : (er0 == 0) = false := by simp [h0]
      go_wp2_with fail
      go_meet
      exact Below.refl _ _
  have HBC := hcut
  obtain ⟨T, hT⟩ : ∃ T, wc = T := ⟨_, rfl⟩
  rw [hT] at HBC ⊢
  have c0 := keep_cell HBC.out c0; have c1 := keep_cell HBC.out c1; have q0 := keep_cell HBC.out q0; have q1 := keep_cell HBC.out q1
  have HB := Lib.hid (belowT HBZ.out HBC.out)
  clear hT HBC HBZ v0 v1 HWH hcut
  go_upto_region 13 with fail
  have HCL := Lib.hid (fun A w' (hr : Reals w' A [(xm, xe), (a, b)]) => close_c A 2 [(xm, xe), (a, b)] w' hr (by simp))
  simp only [List.length_cons, List.length_nil] at HCL
  obtain ⟨cb, hcb⟩ : ∃ cb, closeB [(xm, xe), (a, b)] = cb := ⟨_, rfl⟩
  rw [hcb] at HCL
  obtain ⟨t, ht⟩ : ∃ t : Bool, (t = true ↔ (p < -40 ∨ 40 < p ∨ cb = false)) := ⟨decide (p < -40 ∨ 40 < p ∨ cb = false), decide_eq_true_iff⟩
  have HTT := Lib.hid ht
  have HCB := Lib.hid hcb
  clear ht hcb
  go_cut [88] from 76 to 88 (fun v wx => v = .bool t ∧ Hid (Below T.heap.size T wx))
  case first =>
    by_cases h1 : p < -40
    · obtain rfl : t = true := HTT.out.2 (.inl h1)
      go_wp2_with fail
      go_meet
      exact ⟨rfl, Below.refl _ _⟩
    · by_cases h2 : 40 < p
      · obtain rfl : t = true := HTT.out.2 (.inr (.inl h2))
        go_wp2_with fail
        go_meet
        exact ⟨rfl, Below.refl _ _⟩
      · obtain rfl : t = !cb := by
          cases cb
          · exact HTT.out.2 (.inr (.inr rfl))
          · cases t
            · rfl
            · rcases HTT.out.1 rfl with h | h | h
              · exact absurd h h1
              · exact absurd h h2
              · cases h
        go_wp2_with (go_at_call 72; (with_reducible refine (HCL.out _ _ (reals_two (heap_alloc_new _ _))).mono ?_); rintro en w7 ⟨rfl, hbz⟩; have HB := Lib.hid (belowT ((Below.refl T.heap.size T).alloc (Nat.le_refl _) _) hbz); clear hbz)
        go_meet
        exact ⟨by first | rfl | (cases cb <;> rfl), HB⟩
  obtain ⟨rfl, HBC⟩ := hcut
  obtain ⟨U, hU⟩ : ∃ U, wc = U := ⟨_, rfl⟩
  rw [hU] at HBC ⊢
  have c0 := keep_cell HBC.out c0; have c1 := keep_cell HBC.out c1; have q0 := keep_cell HBC.out q0; have q1 := keep_cell HBC.out q1
  have HB := Lib.hid (belowT HB.out HBC.out)
  clear hU HBC HCL
  cases t
  rotate_left
  · clear HTT
    go_wp2_with (go_at_call 25; (with_reducible refine (HSAN.out _ (HT.out.below HB.out)).mono ?_); rintro en w8 ⟨rfl, hbz⟩; have HB := Lib.hid (belowT HB.out hbz); clear hbz)
    go_ret
    exact ⟨rfl, belowT HBEL.out HB.out⟩
  have hno : ¬ (p < -40 ∨ 40 < p ∨ cb = false) := fun h => Bool.noConfusion (HTT.out.2 h)
  have hcbt : cb = true := by
    cases cb
    · exact absurd (.inr (.inr rfl)) hno
    · rfl
  have hpl : -40 ≤ p ∧ p ≤ 40 := by omega
  obtain ⟨⟨ex0, ex1⟩, eb0, eb1⟩ := closeB_two (HCB.out.trans hcbt)
  have hw1 : IntKind.i64.wrap (-p) = -p := IntWalk.i64_in _ (by omega)
  have HLE := Lib.hid (fun A w' (hr : Reals w' A [(xm, xe), (a, b), (0, -p)]) => least_c A 3 [(xm, xe), (a, b), (0, -p)] w' hr (by simp) (by simp) (by
    intro q hq
    simp only [List.mem_cons, List.not_mem_nil, or_false] at hq
    rcases hq with rfl | rfl | rfl
    · exact ⟨by show -100000 ≤ xe; omega, by show xe ≤ 100000; omega⟩
    · exact ⟨by show -100000 ≤ b; omega, by show b ≤ 100000; omega⟩
    · exact ⟨by show -100000 ≤ -p; omega, by show -p ≤ 100000; omega⟩))
  simp only [List.length_cons, List.length_nil] at HLE
  clear HTT HCB hno hcbt
  go_upto_region 16 with (go_at_call 73; (with_reducible refine (HLE.out _ _ (reals_three (heap_alloc_new _ _))).mono ?_); rintro en V ⟨⟨lo, hi, rfl, hlp⟩, hbz⟩; have HLP := Lib.hid hlp; have hbz2 := belowT ((Below.refl _ _).alloc (Nat.le_refl _) _) hbz; have c0 := keep_cell hbz2 c0; have c1 := keep_cell hbz2 c1; have q0 := keep_cell hbz2 q0; have q1 := keep_cell hbz2 q1; have HB := Lib.hid (belowT HB.out hbz2); clear hbz hbz2 hlp)
  obtain ⟨hl1, ⟨e1, he1, he1l⟩, _⟩ := HLP.out
  have l1 : lo ≤ xe := (hl1 (xm, xe) (by simp)).1
  have l2 : lo ≤ b := (hl1 (a, b) (by simp)).1
  have l3 : lo ≤ -p := (hl1 (0, -p) (by simp)).1
  have l4 : -40 ≤ lo := by
    simp only [List.mem_cons, List.not_mem_nil, or_false] at he1
    rcases he1 with rfl | rfl | rfl
    · show -40 ≤ lo; rw [← he1l]; exact ex0
    · show -40 ≤ lo; rw [← he1l]; exact eb0
    · rw [← he1l]; show -40 ≤ -p; omega
  have hnr := HNR.out hpl.1 hpl.2 lo l1 l2 l3
  clear hl1 he1 he1l e1 HLP HLE HNR
  have fx := at_fit (lo := lo) (e := xe) HXM.out.1 (by omega)
  have fa := at_fit (lo := lo) (e := b) HXM.out.2 (by omega)
  have hba : -9223372036854775808 ≤ a ∧ a ≤ 9223372036854775807 := hab
  have HAX := Lib.hid (fun w' ht' => atR_c xm xe lo w' hx0 hx1 (by omega) (by omega) (by omega) (by omega) ht')
  have HAY := Lib.hid (fun w' ht' => atR_c a b lo w' hba.1 hba.2 (by omega) (by omega) (by omega) (by omega) ht')
  obtain ⟨X, hX⟩ : ∃ X, xm * 10 ^ (xe - lo).toNat = X := ⟨_, rfl⟩
  obtain ⟨Y, hY⟩ : ∃ Y, a * 10 ^ (b - lo).toNat = Y := ⟨_, rfl⟩
  rw [hX] at hnr fx HAX
  rw [hY] at hnr fa HAY
  have nt := nine_ten fx fa
  have nt2 := (nine_ten fa fa).2
  have HAW := Lib.hid (fun w' ht' => away_c (txI X) (txI Y) X Y w' (txI_num nt.2) (txI_num nt2) (by omega) ht')
  obtain ⟨D, hD⟩ : ∃ D : Int, ((X + -Y).natAbs : Int) = D := ⟨_, rfl⟩
  rw [hD] at hnr HAW
  have hTp : (10 : Int) ^ (-p - lo).toNat = ((10 ^ (-p - lo).toNat : Nat) : Int) := by rw [Int.natCast_pow]; rfl
  have hTl : (10 : Nat) ^ (-p - lo).toNat < 10 ^ 199 := Nat.lt_of_le_of_lt (Nat.pow_le_pow_right (by decide) (show (-p - lo).toNat ≤ 198 by omega)) (Nat.pow_lt_pow_right (by decide) (by decide))
  have dD : D.natAbs < 10 ^ 199 ∧ (D + D).natAbs < 10 ^ 200 := by
    have h10 : (10 : Nat) ^ 200 = 10 ^ 199 * 10 := Nat.pow_succ ..
    rw [hTp] at hnr
    constructor <;> omega
  have HADD : Hid (∀ w', Tabs w' → Calls Tryz.prog 76 #[.string (txI D), .string (txI D)] w' fun e w2 => e = .returned (.tuple #[.string (txI (D + D)), .int .i64 0]) ∧ Below w'.heap.size w' w2) := fun w' ht' => law_add (txI D) (txI D) D D (txI (D + D)) 0 w' (txI_num (nine_ten dD.1 dD.1).2) (txI_num (nine_ten dD.1 dD.1).2) (if_pos dD.2) (if_pos dD.2) ht'
  have HDG := Lib.hid (fun w' ht' => digitsR_c 1 (-p - lo) w' (by decide) (by decide) (by omega) ht')
  rw [Int.one_mul] at HDG
  obtain ⟨E, hE⟩ : ∃ E : Int, (10 : Int) ^ (-p - lo).toNat = E := ⟨_, rfl⟩
  rw [hE] at hnr HDG hTp
  have hEl : E.natAbs < 10 ^ 199 := by rw [hTp, Int.natAbs_natCast]; exact hTl
  have HCM : Hid (∀ w', Tabs w' → Calls Tryz.prog 71 #[.string (txI (D + D)), .string (txI E)] w' fun en w2 => en = .returned (.tuple #[.int .i64 (sgn (D + D + -E)), .int .i64 0]) ∧ Below w'.heap.size w' w2) := fun w' ht' => law_cmp _ _ _ _ w' (txI_num dD.2) (txI_num (nine_ten hEl hEl).2) ht'
  have hg0 := sgn_le2 (x := D + D) (y := E) (by omega)
  obtain ⟨g, hg⟩ : ∃ g, sgn (D + D + -E) = g := ⟨_, rfl⟩
  rw [hg] at HCM
  rw [hg] at hg0
  have hw2 : IntKind.i64.wrap (-p - lo) = -p - lo := IntWalk.i64_in _ (by omega)
  obtain ⟨SX, hSX⟩ : ∃ S, txI X = S := ⟨_, rfl⟩
  obtain ⟨SY, hSY⟩ : ∃ S, txI Y = S := ⟨_, rfl⟩
  obtain ⟨SD, hSD⟩ : ∃ S, txI D = S := ⟨_, rfl⟩
  obtain ⟨S2, hS2⟩ : ∃ S, txI (D + D) = S := ⟨_, rfl⟩
  obtain ⟨SE, hSE⟩ : ∃ S, txI E = S := ⟨_, rfl⟩
  rw [hSX] at HAX HAW
  rw [hSY] at HAY HAW
  rw [hSD] at HAW HADD
  rw [hS2] at HADD HCM
  rw [hSE] at HDG HCM
  have HTV := Lib.hid (HTB.out.below HB.out)
  have HPV := Lib.hid (HT.out.below HB.out)
  have HBV := Lib.hid (belowT HBEL.out HB.out)
  clear hX hY hD hTp hTl dD hE hEl hg hSX hSY hSD hS2 hSE nt nt2 fx fa hnr HB HBEL HT HTB hx0 hx1 hab hba HXM HPB l1 l2 l3 l4 ex0 ex1 eb0 eb1 hpl
  go_cut [16] from 100 to 106 (fun v wx => v = .string SD ∧ Hid (Below V.heap.size V wx))
  case first =>
    have HSTL : StableL [(fun _ v => v = .agg #[.int .i64 xm, .int .i64 xe]), (fun _ v => v = .int .i64 lo), (fun _ v => v = .string SX), (fun _ v => v = .agg #[.int .i64 a, .int .i64 b]), (fun _ v => v = .int .i64 lo), (fun _ v => v = .string SY), (fun _ v => v = .string SD), (fun _ v => v = .string SD)] := ⟨(fun _ _ _ _ h => h), (fun _ _ _ _ h => h), (fun _ _ _ _ h => h), (fun _ _ _ _ h => h), (fun _ _ _ _ h => h), (fun _ _ _ _ h => h), (fun _ _ _ _ h => h), (fun _ _ _ _ h => h), trivial⟩
    refine wp_region_p [100, 101, 102, 103, 104, 105, 106, 16] [100, 101, 102, 103, 104, 105, 106, 16] [(fun _ v => v = .agg #[.int .i64 xm, .int .i64 xe]), (fun _ v => v = .int .i64 lo), (fun _ v => v = .string SX), (fun _ v => v = .agg #[.int .i64 a, .int .i64 b]), (fun _ v => v = .int .i64 lo), (fun _ v => v = .string SY), (fun _ v => v = .string SD), (fun _ v => v = .string SD)] 8 (fun _ _ => True) 8 rfl (by kernel_rfl) (by kernel_rfl) ?_ ⟨?_, ?_, ?_, ?_, ?_, ?_, ?_, ?_, trivial⟩
    · intro l us wx hl hJ
      have HNF := hJ.nofin (by kernel_rfl)
      have HB := Lib.hid (hJ.below HNF)
      have h16 : us 16 = .string SD := hJ.val HNF 7 (by decide) (hl 7 (by decide))
      clear hl hJ
      simp only [At, List.foldl_cons, List.foldl_nil, List.setIfInBounds_toArray, List.set_cons_zero, List.set_cons_succ]
      go_wp2_with fail
      go_meet
      exact ⟨by first | rfl | assumption, HB⟩
    · refine opAt rfl ?_
      intro l us wx hJ hp hl K hK
      have HJ := Lib.hid hJ; have HP := Lib.hid hp; have HLI := Lib.hid hl; have HF := Lib.hid (hJ.live hl (by decide)); have HBX := Lib.hid (hJ.below HF.out); have HK := hK
      clear hJ hp hl hK
      simp only [At, List.foldl_cons, List.foldl_nil, List.setIfInBounds_toArray, List.set_cons_zero, List.set_cons_succ] at HK
      have HK := Lib.hid HK
      have c0 := keep_cell HBX.out c0
      have c1 := keep_cell HBX.out c1
      simp only [At, List.foldl_cons, List.foldl_nil, List.setIfInBounds_toArray, List.set_cons_zero, List.set_cons_succ]
      refine ⟨?_⟩
      go_simp
      exact HK.out (upd us 100 (.agg #[.int .i64 xm, .int .i64 xe])) wx (by exact HJ.out.go HSTL (by kernel_rfl) 0 HF.out (by decide) (by decide) HP.out (Below.refl _ _) (.agg #[.int .i64 xm, .int .i64 xe]) (rfl))
    · refine opAt rfl ?_
      intro l us wx hJ hp hl K hK
      have HJ := Lib.hid hJ; have HP := Lib.hid hp; have HLI := Lib.hid hl; have HF := Lib.hid (hJ.live hl (by decide)); have HBX := Lib.hid (hJ.below HF.out); have HK := hK
      clear hJ hp hl hK
      simp only [At, List.foldl_cons, List.foldl_nil, List.setIfInBounds_toArray, List.set_cons_zero, List.set_cons_succ] at HK
      have HK := Lib.hid HK
      simp only [At, List.foldl_cons, List.foldl_nil, List.setIfInBounds_toArray, List.set_cons_zero, List.set_cons_succ]
      refine ⟨?_⟩
      go_simp
      exact HK.out (upd us 101 (.int .i64 lo)) wx (by exact HJ.out.go HSTL (by kernel_rfl) 1 HF.out (by decide) (by decide) HP.out (Below.refl _ _) (.int .i64 lo) (rfl))
    · refine opAt rfl ?_
      intro l us wx hJ hp hl K hK
      have HJ := Lib.hid hJ; have HP := Lib.hid hp; have HLI := Lib.hid hl; have HF := Lib.hid (hJ.live hl (by decide)); have HBX := Lib.hid (hJ.below HF.out); have HK := hK
      clear hJ hp hl hK
      simp only [At, List.foldl_cons, List.foldl_nil, List.setIfInBounds_toArray, List.set_cons_zero, List.set_cons_succ] at HK
      have HK := Lib.hid HK
      have h100 : us 100 = .agg #[.int .i64 xm, .int .i64 xe] := HJ.out.val HF.out 0 (by decide) (HP.out 0 (by kernel_rfl))
      have h101 : us 101 = .int .i64 lo := HJ.out.val HF.out 1 (by decide) (HP.out 1 (by kernel_rfl))
      simp only [At, List.foldl_cons, List.foldl_nil, List.setIfInBounds_toArray, List.set_cons_zero, List.set_cons_succ]
      refine ⟨?_⟩
      go_simp
      go_wp2_with ((go_at_call 75; (with_reducible refine (HAX.out _ (HTV.out.below HBX.out)).mono ?_); rintro en w9 ⟨rfl, hbz⟩; have HC := Lib.hid hbz; clear hbz))
      exact HK.out (upd (upd (upd us 100 (.agg #[.int .i64 xm, .int .i64 xe])) 101 (.int .i64 lo)) 102 (.string SX)) w9 (by rw [upd_self h100, upd_self h101]; exact HJ.out.go HSTL (by kernel_rfl) 2 HF.out (by decide) (by decide) HP.out HC.out (.string SX) (rfl))
    · refine opAt rfl ?_
      intro l us wx hJ hp hl K hK
      have HJ := Lib.hid hJ; have HP := Lib.hid hp; have HLI := Lib.hid hl; have HF := Lib.hid (hJ.live hl (by decide)); have HBX := Lib.hid (hJ.below HF.out); have HK := hK
      clear hJ hp hl hK
      simp only [At, List.foldl_cons, List.foldl_nil, List.setIfInBounds_toArray, List.set_cons_zero, List.set_cons_succ] at HK
      have HK := Lib.hid HK
      have q0 := keep_cell HBX.out q0
      have q1 := keep_cell HBX.out q1
      simp only [At, List.foldl_cons, List.foldl_nil, List.setIfInBounds_toArray, List.set_cons_zero, List.set_cons_succ]
      refine ⟨?_⟩
      go_simp
      exact HK.out (upd us 103 (.agg #[.int .i64 a, .int .i64 b])) wx (by exact HJ.out.go HSTL (by kernel_rfl) 3 HF.out (by decide) (by decide) HP.out (Below.refl _ _) (.agg #[.int .i64 a, .int .i64 b]) (rfl))
    · refine opAt rfl ?_
      intro l us wx hJ hp hl K hK
      have HJ := Lib.hid hJ; have HP := Lib.hid hp; have HLI := Lib.hid hl; have HF := Lib.hid (hJ.live hl (by decide)); have HBX := Lib.hid (hJ.below HF.out); have HK := hK
      clear hJ hp hl hK
      simp only [At, List.foldl_cons, List.foldl_nil, List.setIfInBounds_toArray, List.set_cons_zero, List.set_cons_succ] at HK
      have HK := Lib.hid HK
      simp only [At, List.foldl_cons, List.foldl_nil, List.setIfInBounds_toArray, List.set_cons_zero, List.set_cons_succ]
      refine ⟨?_⟩
      go_simp
      exact HK.out (upd us 104 (.int .i64 lo)) wx (by exact HJ.out.go HSTL (by kernel_rfl) 4 HF.out (by decide) (by decide) HP.out (Below.refl _ _) (.int .i64 lo) (rfl))
    · refine opAt rfl ?_
      intro l us wx hJ hp hl K hK
      have HJ := Lib.hid hJ; have HP := Lib.hid hp; have HLI := Lib.hid hl; have HF := Lib.hid (hJ.live hl (by decide)); have HBX := Lib.hid (hJ.below HF.out); have HK := hK
      clear hJ hp hl hK
      simp only [At, List.foldl_cons, List.foldl_nil, List.setIfInBounds_toArray, List.set_cons_zero, List.set_cons_succ] at HK
      have HK := Lib.hid HK
      have h103 : us 103 = .agg #[.int .i64 a, .int .i64 b] := HJ.out.val HF.out 3 (by decide) (HP.out 3 (by kernel_rfl))
      have h104 : us 104 = .int .i64 lo := HJ.out.val HF.out 4 (by decide) (HP.out 4 (by kernel_rfl))
      simp only [At, List.foldl_cons, List.foldl_nil, List.setIfInBounds_toArray, List.set_cons_zero, List.set_cons_succ]
      refine ⟨?_⟩
      go_simp
      go_wp2_with ((go_at_call 75; (with_reducible refine (HAY.out _ (HTV.out.below HBX.out)).mono ?_); rintro en w9 ⟨rfl, hbz⟩; have HC := Lib.hid hbz; clear hbz))
      exact HK.out (upd (upd (upd us 103 (.agg #[.int .i64 a, .int .i64 b])) 104 (.int .i64 lo)) 105 (.string SY)) w9 (by rw [upd_self h103, upd_self h104]; exact HJ.out.go HSTL (by kernel_rfl) 5 HF.out (by decide) (by decide) HP.out HC.out (.string SY) (rfl))
    · refine opAt rfl ?_
      intro l us wx hJ hp hl K hK
      have HJ := Lib.hid hJ; have HP := Lib.hid hp; have HLI := Lib.hid hl; have HF := Lib.hid (hJ.live hl (by decide)); have HBX := Lib.hid (hJ.below HF.out); have HK := hK
      clear hJ hp hl hK
      simp only [At, List.foldl_cons, List.foldl_nil, List.setIfInBounds_toArray, List.set_cons_zero, List.set_cons_succ] at HK
      have HK := Lib.hid HK
      have h102 : us 102 = .string SX := HJ.out.val HF.out 2 (by decide) (HP.out 2 (by kernel_rfl))
      have h105 : us 105 = .string SY := HJ.out.val HF.out 5 (by decide) (HP.out 5 (by kernel_rfl))
      simp only [At, List.foldl_cons, List.foldl_nil, List.setIfInBounds_toArray, List.set_cons_zero, List.set_cons_succ]
      refine ⟨?_⟩
      go_simp
      go_wp2_with ((go_at_call 74; (with_reducible refine (HAW.out _ (HTV.out.below HBX.out)).mono ?_); rintro en w9 ⟨rfl, hbz⟩; have HC := Lib.hid hbz; clear hbz))
      exact HK.out (upd (upd (upd us 102 (.string SX)) 105 (.string SY)) 106 (.string SD)) w9 (by rw [upd_self h102, upd_self h105]; exact HJ.out.go HSTL (by kernel_rfl) 6 HF.out (by decide) (by decide) HP.out HC.out (.string SD) (rfl))
    · refine opAt rfl ?_
      intro l us wx hJ hp hl K hK
      have HJ := Lib.hid hJ; have HP := Lib.hid hp; have HLI := Lib.hid hl; have HF := Lib.hid (hJ.live hl (by decide)); have HBX := Lib.hid (hJ.below HF.out); have HK := hK
      clear hJ hp hl hK
      simp only [At, List.foldl_cons, List.foldl_nil, List.setIfInBounds_toArray, List.set_cons_zero, List.set_cons_succ] at HK
      have HK := Lib.hid HK
      have h106 : us 106 = .string SD := HJ.out.val HF.out 6 (by decide) (HP.out 6 (by kernel_rfl))
      simp only [At, List.foldl_cons, List.foldl_nil, List.setIfInBounds_toArray, List.set_cons_zero, List.set_cons_succ]
      refine ⟨?_⟩
      go_simp
      exact HK.out (upd (upd us 106 (.string SD)) 16 (.string SD)) wx (by rw [upd_self h106]; exact HJ.out.go HSTL (by kernel_rfl) 7 HF.out (by decide) (by decide) HP.out (Below.refl _ _) (.string SD) (rfl))
  obtain ⟨rfl, HB⟩ := hcut
  go_wp2_with (first
    | (go_at_call 76; (with_reducible refine (HADD.out _ (HTV.out.below HB.out)).mono ?_); rintro en w9 ⟨rfl, hbz⟩; have HB := Lib.hid (belowT HB.out hbz); clear hbz)
    | (go_at_call 77; (with_reducible refine (HDG.out _ (HTV.out.below HB.out)).mono ?_); rintro en w10 ⟨rfl, hbz⟩; have HB := Lib.hid (belowT HB.out hbz); clear hbz)
    | (go_at_call 71; (with_reducible refine (HCM.out _ (HTV.out.below HB.out)).mono ?_); rintro en w11 ⟨rfl, hbz⟩; have HB := Lib.hid (belowT HB.out hbz); clear hbz)
    | (go_at_call 25; (with_reducible refine (HSAN.out _ (HPV.out.below HB.out)).mono ?_); rintro en w12 ⟨rfl, hbz⟩; have HB := Lib.hid (belowT HB.out hbz); clear hbz))
  go_ret
  exact ⟨by first | rfl | simp [hg0], belowT HBV.out HB.out⟩
end Go.Proofs.YtekbfommnmikbaaGreatDoor
