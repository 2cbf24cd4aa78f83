/- Signs and comparisons at valid integers, their answers by name. -/
import Derived.Test.YtbjgpbdkofadiaaGreatDoorLawB
namespace Go.Proofs.YtbjgpbdkofadiaaGreatDoor
set_option linter.unusedVariables false
set_option linter.unusedSimpArgs false
open Go.RowKit Go.Shelf Go.Proofs

theorem num_one : NumL [49] 1 := ⟨by decide +kernel, by decide⟩
section
variable (S T : ByteArray) (x y g : Int) (w : World)
theorem law_sign_at (hS : NumL S.data.toList x) (hg : sgn x = g) (ht : Tabs w) : Calls Tryz.prog 48 #[.string S] w (AnsI g w) := hg ▸ law_sign S x w hS ht
theorem law_cmp_at (hS : NumL S.data.toList x) (hT : NumL T.data.toList y) (hg : sgn (x + -y) = g) (ht : Tabs w) : Calls Tryz.prog 45 #[.string S, .string T] w (AnsI g w) := hg ▸ law_cmp S T x y w hS hT ht
theorem law_toint (hS : NumL S.data.toList x) (h0 : -9223372036854775808 ≤ x) (h1 : x ≤ 9223372036854775807) (ht : Tabs w) : Calls Tryz.prog 51 #[.string S] w (AnsI x w) :=
  (toInt_c S w ht).mono fun _ _ h => by
    obtain ⟨h, hb⟩ := h
    rcases h with ⟨z, hz, rfl⟩ | ⟨hn, _⟩
    · obtain rfl := itoa_inj (hS.1.symm.trans hz.1)
      refine ⟨?_, hb⟩
      rw [toIntRes, if_pos ⟨h0, h1⟩]
    · exact absurd ⟨x, hS⟩ hn
end
theorem sg_pos {x : Int} (h : 0 < x) : sgn x = 1 := by unfold sgn; rw [if_neg (by omega), if_pos h]
theorem sg_neg {x : Int} (h : x < 0) : sgn x = -1 := by unfold sgn; rw [if_pos h]
theorem sg_zero : sgn 0 = 0 := by unfold sgn; rfl
theorem sg_rng (x : Int) : -1 ≤ sgn x ∧ sgn x ≤ 1 := by
  rcases Int.lt_trichotomy x 0 with h | h | h
  · rw [sg_neg h]; omega
  · rw [h, sg_zero]; omega
  · rw [sg_pos h]; omega
theorem sg_lt {x : Int} : sgn x < 0 ↔ x < 0 := by
  rcases Int.lt_trichotomy x 0 with h | h | h
  · rw [sg_neg h]; omega
  · rw [h, sg_zero]
  · rw [sg_pos h]; omega
theorem sg_gt {x : Int} : 0 < sgn x ↔ 0 < x := by
  rcases Int.lt_trichotomy x 0 with h | h | h
  · rw [sg_neg h]; omega
  · rw [h, sg_zero]
  · rw [sg_pos h]; omega
theorem sg_eq {x : Int} : sgn x = 0 ↔ x = 0 := by
  rcases Int.lt_trichotomy x 0 with h | h | h
  · rw [sg_neg h]; omega
  · rw [h, sg_zero]
  · rw [sg_pos h]; omega
theorem sg_opp (x : Int) : sgn (-x) = -sgn x := by
  rcases Int.lt_trichotomy x 0 with h | h | h
  · rw [sg_neg h, sg_pos (by omega)]; rfl
  · subst h; rfl
  · rw [sg_pos h, sg_neg (by omega)]
end Go.Proofs.YtbjgpbdkofadiaaGreatDoor
