/- The reference's Gcd. -/
import Derived.Test.YtbjgpbdkofadiaaGreatDoorRefP


import Derived.Deep.DrawnRows
namespace Go.Proofs.YtbjgpbdkofadiaaGreatDoor
set_option linter.unusedVariables false
set_option linter.unusedSimpArgs false
open Go.RowKit Go.Shelf
attribute [local go_sem ↓] Go.wp_at_zero Go.wp_at_succ

/-- Three of the reference's integers. -/
def Bz (w : World) (v : Value) (x y z : Int) : Prop := ∃ p b q c r d, v = .agg #[p, .bool b, q, .bool c, r, .bool d] ∧ Ri w (.agg #[p, .bool b]) x ∧ Ri w (.agg #[q, .bool c]) y ∧ Ri w (.agg #[r, .bool d]) z
theorem noi_six {x0 x1 x2 x3 x4 x5 : Value} (h0 : NoI x0) (h1 : NoI x1) (h2 : NoI x2) (h3 : NoI x3) (h4 : NoI x4) (h5 : NoI x5) : ∀ (i : Nat) x, (#[x0, x1, x2, x3, x4, x5] : Array Value)[i]? = some x → NoI x := by
  intro i x hi
  match i with
  | 0 => simp at hi; subst hi; exact h0
  | 1 => simp at hi; subst hi; exact h1
  | 2 => simp at hi; subst hi; exact h2
  | 3 => simp at hi; subst hi; exact h3
  | 4 => simp at hi; subst hi; exact h4
  | 5 => simp at hi; subst hi; exact h5
  | i + 6 => simp at hi
/-- Six stores into the result's box. -/
theorem bz_put {V : World} {g n c n' c' n2 c2 : Nat} {A A' A2 : Option Addr} {b b' b2 : Bool} {x y z : Int} {t : TypeId} (hx : Ri V (.agg #[.slice A n c, .bool b]) x) (hy : Ri V (.agg #[.slice A' n' c', .bool b']) y) (hz : Ri V (.agg #[.slice A2 n2 c2, .bool b2]) z)
    (h0 : V.heap[g]? = some (.cells #[.slice none 0 0, .bool false, .slice none 0 0, .bool false, .slice none 0 0, .bool false] t (0, 0))) :
    ∃ F, (((((V.setCell ⟨g, 0, none⟩ (.slice A n c)).setCell ⟨g, 1, none⟩ (.bool b)).setCell ⟨g, 2, none⟩ (.slice A' n' c')).setCell ⟨g, 3, none⟩ (.bool b')).setCell ⟨g, 4, none⟩ (.slice A2 n2 c2)).setCell ⟨g, 5, none⟩ (.bool b2) = F
      ∧ F.heap[g]? = some (.cells #[.slice A n c, .bool b, .slice A' n' c', .bool b', .slice A2 n2 c2, .bool b2] t (0, 0))
      ∧ Bz F (.agg #[.slice A n c, .bool b, .slice A' n' c', .bool b', .slice A2 n2 c2, .bool b2]) x y z ∧ (∀ k w0, k ≤ g → Below k w0 V → Below k w0 F) := by
  have h1 := box_put h0 0 (.slice A n c)
  simp only [List.setIfInBounds_toArray, List.set_cons_zero, List.set_cons_succ] at h1
  have h2 := box_put h1 1 (.bool b)
  simp only [List.setIfInBounds_toArray, List.set_cons_zero, List.set_cons_succ] at h2
  have h3 := box_put h2 2 (.slice A' n' c')
  simp only [List.setIfInBounds_toArray, List.set_cons_zero, List.set_cons_succ] at h3
  have h4 := box_put h3 3 (.bool b')
  simp only [List.setIfInBounds_toArray, List.set_cons_zero, List.set_cons_succ] at h4
  have h5 := box_put h4 4 (.slice A2 n2 c2)
  simp only [List.setIfInBounds_toArray, List.set_cons_zero, List.set_cons_succ] at h5
  have h6 := box_put h5 5 (.bool b2)
  simp only [List.setIfInBounds_toArray, List.set_cons_zero, List.set_cons_succ] at h6
  have s := fun A n c => noi_slice A n c
  have go : ∀ {v : Value} {m : Nat}, Dg 10 V v m → Dg 10 ((((((V.setCell ⟨g, 0, none⟩ (.slice A n c)).setCell ⟨g, 1, none⟩ (.bool b)).setCell ⟨g, 2, none⟩ (.slice A' n' c')).setCell ⟨g, 3, none⟩ (.bool b')).setCell ⟨g, 4, none⟩ (.slice A2 n2 c2)).setCell ⟨g, 5, none⟩ (.bool b2)) v m := fun h =>
    dg_put (dg_put (dg_put (dg_put (dg_put (dg_put h h0 (noi_six (s _ _ _) (noi_bool _) (s _ _ _) (noi_bool _) (s _ _ _) (noi_bool _)) _ _) h1 (noi_six (s _ _ _) (noi_bool _) (s _ _ _) (noi_bool _) (s _ _ _) (noi_bool _)) _ _) h2 (noi_six (s _ _ _) (noi_bool _) (s _ _ _) (noi_bool _) (s _ _ _) (noi_bool _)) _ _) h3 (noi_six (s _ _ _) (noi_bool _) (s _ _ _) (noi_bool _) (s _ _ _) (noi_bool _)) _ _) h4 (noi_six (s _ _ _) (noi_bool _) (s _ _ _) (noi_bool _) (s _ _ _) (noi_bool _)) _ _) h5 (noi_six (s _ _ _) (noi_bool _) (s _ _ _) (noi_bool _) (s _ _ _) (noi_bool _)) _ _
  obtain ⟨p, e, hp⟩ := hx
  obtain ⟨q, e', hq⟩ := hy
  obtain ⟨r, e2, hr⟩ := hz
  exact ⟨_, rfl, h6, ⟨_, _, _, _, _, _, rfl, ⟨p, e, go hp⟩, ⟨q, e', go hq⟩, ⟨r, e2, go hr⟩⟩, fun k w0 hk hb => (((((hb.setCell hk _).setCell hk _).setCell hk _).setCell hk _).setCell hk _).setCell hk _⟩

theorem gcd_cop {x y : Int} (hy : y ≠ 0) : Int.gcd (x.tdiv (Int.gcd x y : Int)) ((y.natAbs / Int.gcd x y : Nat) : Int) = 1 := by
  have hp : 0 < Int.gcd x y := Nat.gcd_pos_of_pos_right _ (by omega)
  have h := Nat.coprime_div_gcd_div_gcd (m := x.natAbs) (n := y.natAbs) hp
  show Nat.gcd (x.tdiv (Int.gcd x y : Int)).natAbs _ = 1
  rw [Int.natAbs_tdiv, Int.natAbs_natCast, Int.natAbs_natCast]
  exact h
theorem gcd_mul {x y X : Int} (hy : y ≠ 0) (h : InvP (x.tdiv (Int.gcd x y : Int)) ((y.natAbs / Int.gcd x y : Nat) : Int) X) :
    GcdP x y (Int.gcd x y) X (((Int.gcd x y : Int) + -(X * x)).tdiv y) ∧ X.natAbs ≤ y.natAbs := by
  obtain ⟨h1, h2⟩ := gcd_quo (a := x) hy
  obtain ⟨lo, hi, t, ht⟩ := h
  refine gcd_factors (x := X) hy ?_ X _ ?_ rfl
  · have hd : x.tdiv (Int.gcd x y : Int) * (Int.gcd x y : Int) = x := Int.tdiv_mul_cancel (Int.gcd_dvd_left ..)
    have hM : ((y.natAbs / Int.gcd x y : Nat) : Int) * (Int.gcd x y : Int) = (y.natAbs : Int) := by exact_mod_cast h2
    obtain ⟨e, he⟩ : ∃ e : Int, (y.natAbs : Int) = e * y := by
      rcases Int.natAbs_eq y with h | h
      · exact ⟨1, by omega⟩
      · exact ⟨-1, by omega⟩
    refine ⟨t * e, ?_⟩
    generalize x.tdiv (Int.gcd x y : Int) = x' at *
    generalize ((y.natAbs / Int.gcd x y : Nat) : Int) = M at *
    generalize (Int.gcd x y : Int) = G at *
    have h5 : (X * x' + t * M) * G = G := by rw [ht]; simp
    rw [Int.add_mul, Int.mul_assoc, hd, Int.mul_assoc, hM, he] at h5
    rw [Int.mul_assoc]; exact h5
  · have h6 := Int.mul_fdiv_add_fmod X ((y.natAbs / Int.gcd x y : Nat) : Int)
    have h7 : X.fdiv ((y.natAbs / Int.gcd x y : Nat) : Int) = 0 := by
      rw [Int.fdiv_eq_ediv_of_nonneg _ (by omega)]
      exact Int.ediv_eq_zero_of_lt lo hi
    rw [h7] at h6
    omega
end Go.Proofs.YtbjgpbdkofadiaaGreatDoor
