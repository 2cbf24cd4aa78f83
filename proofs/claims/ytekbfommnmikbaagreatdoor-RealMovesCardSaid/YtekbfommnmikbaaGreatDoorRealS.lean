/- Package real: Root. -/
import Derived.Test.YtekbfommnmikbaaGreatDoorRealR
namespace Go.Proofs.YtekbfommnmikbaaGreatDoor
set_option linter.unusedVariables false
set_option linter.unusedSimpArgs false
open Go.RowKit Go.Shelf Go.Proofs
attribute [local go_sem ↓] Go.wp_at_zero Go.wp_at_succ

theorem tdiv2_bounds {E : Int} (h1 : -112 ≤ E) (h2 : E ≤ 88) : -60 ≤ E.tdiv 2 ∧ E.tdiv 2 ≤ 60 := by
  have h3 := Int.mul_tdiv_add_tmod E 2
  have h4 : -2 < E.tmod 2 ∧ E.tmod 2 < 2 := by
    rcases Int.le_total 0 E with h | h
    · obtain ⟨k, rfl⟩ := Int.eq_ofNat_of_zero_le h
      rw [show ((k : Int).tmod 2) = ((k % 2 : Nat) : Int) from rfl]; omega
    · obtain ⟨k, hk⟩ := Int.eq_ofNat_of_zero_le (show 0 ≤ -E by omega)
      obtain rfl : E = -(k : Int) := by omega
      rw [Int.neg_tmod, show ((k : Int).tmod 2) = ((k % 2 : Nat) : Int) from rfl]; omega
  omega
/-- What the root is rounded to. -/
def rootX (M : Nat) (xe : Int) : Int := (rootE xe).tdiv 2 + (((rootL M xe).length / 2 : Nat) : Int) - 14
def rootV (M : Nat) (xe : Int) : Option (Nat × Int) := rnd (vd (withMore (firsts (ritem (rootL M xe)) 14) (lastMore (ritem (rootL M xe)) 14))).toNat (expMore (rootX M xe) (lastMore (ritem (rootL M xe)) 14))
theorem rootX_bounds {M : Nat} {xe : Int} (h : RV M xe) : -100 ≤ rootX M xe ∧ rootX M xe ≤ 100 := by
  have hx := (RV_abs (m := (M : Int)) h).2
  have hl : (rootL M xe).length ≤ 14 := by
    have h1 := dgR_len (m := (M : Int)) h
    have h2 : (M : Int).natAbs = M := rfl
    rw [h2] at h1
    unfold rootL
    split
    · omega
    · rw [List.length_append, List.length_append]; simp only [List.length_cons, List.length_nil]; omega
  have hE : -112 ≤ rootE xe ∧ rootE xe ≤ 88 := by unfold rootE; split <;> omega
  have := tdiv2_bounds hE.1 hE.2
  unfold rootX
  omega
theorem rootRounded (M : Nat) (xe : Int) (w : World) {v : Value} (h : RV M xe) (ha : Amt w v false (firsts (ritem (rootL M xe)) 14) (rootX M xe) (lastMore (ritem (rootL M xe)) 14)) :
    Calls Tryz.prog 88 #[v] w fun en w' => en = .returned (resR false (rootV M xe)) ∧ Below w.heap.size w w' := by
  have hb := rootX_bounds h
  exact rounded_a ha (firsts_inR (ritem_dig _) 14) (by rw [firsts_length]; omega) (by omega) (by omega)
end Go.Proofs.YtekbfommnmikbaaGreatDoor
