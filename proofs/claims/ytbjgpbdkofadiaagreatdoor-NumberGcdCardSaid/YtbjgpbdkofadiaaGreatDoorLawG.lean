/- Gcd at valid integers, as the laws call it. -/
import Derived.Test.YtbjgpbdkofadiaaGreatDoorLawC
import Derived.Test.YtbjgpbdkofadiaaGreatDoorDivZ
import Derived.Test.YtbjgpbdkofadiaaGreatDoorGcdOp
namespace Go.Proofs.YtbjgpbdkofadiaaGreatDoor
set_option linter.unusedVariables false
set_option linter.unusedSimpArgs false
open Go.RowKit Go.Shelf Go.Proofs

theorem bezout_nat : ∀ (n a b : Nat), b ≤ n → ∃ s t : Int, s * (a : Int) + t * (b : Int) = (Nat.gcd a b : Int)
  | 0, a, b, h => ⟨1, 0, by
    obtain rfl : b = 0 := by omega
    simp⟩
  | n + 1, a, b, h => by
    by_cases hb : b = 0
    · exact ⟨1, 0, by subst hb; simp⟩
    · obtain ⟨s, t, e⟩ := bezout_nat n b (a % b) (by have := Nat.mod_lt a (Nat.pos_of_ne_zero hb); omega)
      refine ⟨t, s + -(t * ((a / b : Nat) : Int)), ?_⟩
      have h4 : ((a : Nat) : Int) = (b : Int) * ((a / b : Nat) : Int) + ((a % b : Nat) : Int) := by exact_mod_cast (Nat.div_add_mod a b).symm
      have h5 : Nat.gcd a b = Nat.gcd b (a % b) := by rw [Nat.gcd_comm b, ← Nat.gcd_rec b a, Nat.gcd_comm]
      rw [h5, ← e]
      have h6 : ((a % b : Nat) : Int) = (a : Int) - (b : Int) * ((a / b : Nat) : Int) := by omega
      rw [h6]; grind
theorem bezout_int (x y : Int) : ∃ s t : Int, s * x + t * y = (Int.gcd x y : Int) := by
  obtain ⟨s, t, e⟩ := bezout_nat y.natAbs x.natAbs y.natAbs (Nat.le_refl _)
  have e' : s * (x.natAbs : Int) + t * (y.natAbs : Int) = (Int.gcd x y : Int) := e
  obtain ⟨s', hs⟩ : ∃ s' : Int, s' * x = s * (x.natAbs : Int) := by
    rcases Int.natAbs_eq x with h | h
    · exact ⟨s, by rw [← h]⟩
    · exact ⟨-s, by rw [show (x.natAbs : Int) = -x by omega]; grind⟩
  obtain ⟨t', ht⟩ : ∃ t' : Int, t' * y = t * (y.natAbs : Int) := by
    rcases Int.natAbs_eq y with h | h
    · exact ⟨t, by rw [← h]⟩
    · exact ⟨-t, by rw [show (y.natAbs : Int) = -y by omega]; grind⟩
  exact ⟨s', t', by rw [hs, ht, e']⟩
/-- There are such factors. -/
theorem gcdP_ex (x y : Int) : ∃ X Y, GcdP x y (Int.gcd x y : Int) X Y := by
  by_cases hy : y = 0
  · subst hy
    refine ⟨x.sign, 0, ?_⟩
    have h := gcdP_zero x
    rw [show (Int.gcd x 0 : Int) = (x.natAbs : Int) by simp]
    exact h
  · obtain ⟨s, t, e⟩ := bezout_int x y
    exact ⟨_, _, (gcd_factors hy ⟨t, e⟩ _ _ rfl rfl).1⟩
/-- Their sizes. -/
theorem gcdP_fit {x y G X Y : Int} (h : GcdP x y G X Y) (hx : x.natAbs < 10 ^ 200) (hy : y.natAbs < 10 ^ 200) : G.natAbs < 10 ^ 200 ∧ X.natAbs < 10 ^ 200 ∧ Y.natAbs < 10 ^ 200 := by
  have hY : Y.natAbs < 10 ^ 200 := by
    rcases h.size with k | k
    · omega
    · exact Nat.lt_of_le_of_lt k (by decide)
  have hgd : Int.gcd x y = 0 ∨ Int.gcd x y ≤ x.natAbs ∨ Int.gcd x y ≤ y.natAbs := by
    by_cases h0 : x.natAbs = 0
    · by_cases h1 : y.natAbs = 0
      · left; show Nat.gcd x.natAbs y.natAbs = 0; rw [h0, h1]; rfl
      · exact .inr (.inr (Nat.le_of_dvd (by omega) (Nat.gcd_dvd_right _ _)))
    · exact .inr (.inl (Nat.le_of_dvd (by omega) (Nat.gcd_dvd_left _ _)))
  refine ⟨?_, ?_, hY⟩
  · rw [h.g_, Int.natAbs_natCast]
    rcases hgd with k | k | k
    · rw [k]; decide
    · omega
    · omega
  · by_cases hy0 : y = 0
    · rw [(h.none hy0).1]; exact sign_small x
    · have h1 := h.low hy0
      have h2 := h.high hy0
      have h3 : y.natAbs / Int.gcd x y ≤ y.natAbs := Nat.div_le_self _ _
      omega

/-- A call answers with three texts and no error. -/
def Ans3 (s t u : ByteArray) (w : World) (e : Ending) (w' : World) : Prop := e = .returned (.tuple #[.string s, .string t, .string u, .int .i64 0]) ∧ Below w.heap.size w w'
theorem law_gcd (S T : ByteArray) (x y G X Y : Int) (s t u : ByteArray) (w : World) (hS : NumL S.data.toList x) (hT : NumL T.data.toList y) (h : GcdP x y G X Y) (hs : txt G = s) (ht' : txt X = t) (hu : txt Y = u) (ht : Tabs w) :
    Calls Tryz.prog 32 #[.string S, .string T] w (Ans3 s t u w) := by
  obtain ⟨f1, f2, f3⟩ := gcdP_fit h hS.2 hT.2
  refine (numGcd_g S T w ht ?_).mono ?_
  · intro x' y' hx' hy' W v1 v2 h1 h2
    exact divisor_c v1 v2 x' y' W h1 h2 hx'.2 hy'.2
  · rintro e w' ⟨⟨x', y', hx', hy', rfl⟩ | ⟨hn, _⟩, hb⟩
    · obtain rfl := itoa_inj (hS.1.symm.trans hx'.1)
      obtain rfl := itoa_inj (hT.1.symm.trans hy'.1)
      refine ⟨?_, hb⟩
      rw [gcdOut_eq h]
      show Ending.returned (.tuple #[.string (gtx G), .string (gtx X), .string (gtx Y), .int .i64 0]) = _
      rw [show gtx G = txt G from (tx_txt f1), show gtx X = txt X from (tx_txt f2), show gtx Y = txt Y from (tx_txt f3), hs, ht', hu]
    · exact absurd ⟨⟨_, hS⟩, _, hT⟩ hn
end Go.Proofs.YtbjgpbdkofadiaaGreatDoor
