/- More functions at valid integers, as the laws call them. -/
import Derived.Test.YtbjgpbdkofadiaaGreatDoorInts
import Derived.Test.YtbjgpbdkofadiaaGreatDoorQuo
import Derived.Test.YtbjgpbdkofadiaaGreatDoorPow
import Derived.Test.YtbjgpbdkofadiaaGreatDoorToBase
import Derived.Test.YtbjgpbdkofadiaaGreatDoorFromBase
import Derived.Test.YtbjgpbdkofadiaaGreatDoorRootF
namespace Go.Proofs.YtbjgpbdkofadiaaGreatDoor
set_option linter.unusedVariables false
set_option linter.unusedSimpArgs false
open Go.RowKit Go.Shelf Go.Proofs

theorem tx_txt {z : Int} (h : z.natAbs < 10 ^ 200) : tx z = txt z := by rw [txt, if_pos h]; rfl
theorem num_fit {z : Int} {s : ByteArray} (h : z.natAbs < 10 ^ 200) (hs : txt z = s) : NumL s.data.toList z := num_of hs (ern_fit h) rfl
where ern_fit {z : Int} (h : z.natAbs < 10 ^ 200) : ern z = 0 := if_pos h
theorem ern_fit {z : Int} (h : z.natAbs < 10 ^ 200) : ern z = 0 := if_pos h

/-- A call answers with two texts and the error k. -/
def Ans2 (s t : ByteArray) (k : Int) (w : World) (e : Ending) (w' : World) : Prop := e = .returned (.tuple #[.string s, .string t, .int .i64 k]) ∧ Below w.heap.size w w'

theorem div_at {S T : ByteArray} {Q R : Int → Int → Int} {w w' : World} {e : Ending} {x y : Int} (h : DivA S T Q R w e w') (hx : NumL S.data.toList x) (hy : NumL T.data.toList y) : e = .returned (three (divOut (Q x y) (R x y) y)) ∧ Below w.heap.size w w' := by
  obtain ⟨h, hb⟩ := h
  rcases h with ⟨x', y', hx', hy', rfl⟩ | ⟨hn, _⟩
  · rw [itoa_inj (hx.1.symm.trans hx'.1), itoa_inj (hy.1.symm.trans hy'.1)]; exact ⟨rfl, hb⟩
  · exact absurd ⟨⟨x, hx⟩, y, hy⟩ hn
theorem divOut_ok {Q R y : Int} (hy : y ≠ 0) (hQ : Q.natAbs < 10 ^ 200) : divOut Q R y = .ok (.agg #[.string (tx Q), .string (tx R)]) := by
  rw [divOut, if_neg hy, if_pos hQ]
theorem divOut_none {Q R : Int} : divOut Q R 0 = .err 5 := if_pos rfl
theorem divOut_big {Q R y : Int} (hy : y ≠ 0) (hQ : ¬ Q.natAbs < 10 ^ 200) : divOut Q R y = .err 3 := by
  rw [divOut, if_neg hy, if_neg hQ]
theorem tdiv_fit {x y : Int} (hx : x.natAbs < 10 ^ 200) : (x.tdiv y).natAbs < 10 ^ 200 := by
  rw [Int.natAbs_tdiv]; exact Nat.lt_of_le_of_lt (Nat.div_le_self _ _) hx
theorem tmod_fit {x y : Int} (hx : x.natAbs < 10 ^ 200) : (x.tmod y).natAbs < 10 ^ 200 := by
  rw [Int.natAbs_tmod]; exact Nat.lt_of_le_of_lt (Nat.mod_le _ _) hx
theorem fmod_neg_rng (x : Int) {y : Int} (h : y < 0) : x.fmod y ≤ 0 ∧ y < x.fmod y := by
  have h1 : x.fmod y = -(-x).fmod (-y) := by rw [Int.neg_fmod_neg, Int.neg_neg]
  have h2 := Int.fmod_nonneg_of_pos (-x) (b := -y) (by omega)
  have h3 := Int.fmod_lt_of_pos (-x) (b := -y) (by omega)
  omega
theorem tmod_np {x : Int} (y : Int) (h : x ≤ 0) : x.tmod y ≤ 0 := by
  have h1 : x.tmod y = -(-x).tmod y := by rw [Int.neg_tmod, Int.neg_neg]
  have h2 := Int.tmod_nonneg y (a := -x) (by omega)
  omega
theorem sq_nonneg (x : Int) : 0 ≤ x * x := by
  rcases Int.le_total 0 x with h | h
  · exact Int.mul_nonneg h h
  · exact Int.mul_nonneg_of_nonpos_of_nonpos h h
theorem fmod_fit {x y : Int} (hy0 : y ≠ 0) (hy : y.natAbs < 10 ^ 200) : (x.fmod y).natAbs < 10 ^ 200 := by
  rcases Int.lt_or_gt_of_ne hy0 with h | h
  · have h1 := fmod_neg_rng x h
    omega
  · have h1 := Int.fmod_nonneg_of_pos x h
    have h2 := Int.fmod_lt_of_pos x h
    omega

section
variable (S T : ByteArray) (x y n : Int) (s t : ByteArray) (k : Int) (w : World)
theorem law_pow (hS : NumL S.data.toList x) (hn : 0 ≤ n) (hn2 : n ≤ 9223372036854775807) (hs : txt (x ^ n.toNat) = s) (hk : ern (x ^ n.toNat) = k) (ht : Tabs w) : Calls Tryz.prog 20 #[.string S, .int .i64 n] w (Ans s k w) :=
  (numPow_c S n hn2 w ht).mono fun _ _ h => by
    have h1 := un_at (f := fun x => powOut x n) h hS
    have h2 : powOut x n = textOut (x ^ n.toNat) := if_neg (by omega)
    simp only [h2] at h1
    exact ans_mk h1 hs hk
theorem law_root (hS : NumL S.data.toList x) (hx : 0 ≤ x) (hs : txt (root x.natAbs : Int) = s) (hk : ern (root x.natAbs : Int) = k) (ht : Tabs w) : Calls Tryz.prog 33 #[.string S] w (Ans s k w) :=
  (numRoot_c S w ht).mono fun _ _ h => by
    have h1 := un_at h hS
    rw [rootOut, if_neg (by omega)] at h1
    exact ans_mk h1 hs hk
theorem law_root_neg (hS : NumL S.data.toList x) (hx : x < 0) (ht : Tabs w) : Calls Tryz.prog 33 #[.string S] w (Ans ⟨#[]⟩ 5 w) :=
  (numRoot_c S w ht).mono fun _ _ h => by
    have h1 := un_at h hS
    rw [rootOut, if_pos hx] at h1
    exact h1
theorem law_quo (hS : NumL S.data.toList x) (hT : NumL T.data.toList y) (hy : y ≠ 0) (hs : txt (x.tdiv y) = s) (hr : txt (x.tmod y) = t) (ht : Tabs w) : Calls Tryz.prog 27 #[.string S, .string T] w (Ans2 s t 0 w) :=
  (numQuo_c S T w ht).mono fun _ _ h => by
    have h1 := div_at h hS hT
    simp only [divOut_ok hy (tdiv_fit (y := y) hS.2), tx_txt (tdiv_fit (y := y) hS.2), tx_txt (tmod_fit (y := y) hS.2), hs, hr] at h1
    exact h1
theorem law_quo_none (hS : NumL S.data.toList x) (hT : NumL T.data.toList 0) (ht : Tabs w) : Calls Tryz.prog 27 #[.string S, .string T] w (Ans2 ⟨#[]⟩ ⟨#[]⟩ 5 w) :=
  (numQuo_c S T w ht).mono fun _ _ h => by
    have h1 := div_at h hS hT
    simp only [divOut_none] at h1
    exact h1
theorem law_floor (hS : NumL S.data.toList x) (hT : NumL T.data.toList y) (hy : y ≠ 0) (hf : (x.fdiv y).natAbs < 10 ^ 200) (hs : txt (x.fdiv y) = s) (hr : txt (x.fmod y) = t) (ht : Tabs w) : Calls Tryz.prog 28 #[.string S, .string T] w (Ans2 s t 0 w) :=
  (numFloor_c S T w ht).mono fun _ _ h => by
    have h1 := div_at h hS hT
    simp only [divOut_ok hy hf, tx_txt hf, tx_txt (fmod_fit (x := x) hy hT.2), hs, hr] at h1
    exact h1
theorem law_floor_big (hS : NumL S.data.toList x) (hT : NumL T.data.toList y) (hy : y ≠ 0) (hf : ¬ (x.fdiv y).natAbs < 10 ^ 200) (ht : Tabs w) : Calls Tryz.prog 28 #[.string S, .string T] w (Ans2 ⟨#[]⟩ ⟨#[]⟩ 3 w) :=
  (numFloor_c S T w ht).mono fun _ _ h => by
    have h1 := div_at h hS hT
    simp only [divOut_big hy hf] at h1
    exact h1
theorem law_floor_none (hS : NumL S.data.toList x) (hT : NumL T.data.toList 0) (ht : Tabs w) : Calls Tryz.prog 28 #[.string S, .string T] w (Ans2 ⟨#[]⟩ ⟨#[]⟩ 5 w) :=
  (numFloor_c S T w ht).mono fun _ _ h => by
    have h1 := div_at h hS hT
    simp only [divOut_none] at h1
    exact h1
theorem law_tobase (b : Nat) (hS : NumL S.data.toList x) (hb : 2 ≤ b) (hb2 : b ≤ 36) (hs : ⟨(btext b x).toArray⟩ = s) (ht : Tabs w) : Calls Tryz.prog 36 #[.string S, .int .i64 (b : Int)] w (Ans s 0 w) :=
  (numToBase_c S b hb hb2 w ht).mono fun _ _ h => by
    have h1 := un_at h hS
    rw [← hs]
    exact h1
theorem law_frombase (b : Nat) (hb : 2 ≤ b) (hb2 : b ≤ 36) (hS : S.size ≤ 1000) (hf : formB b S.data.toList) (hx : fromB b S.data.toList = x) (hs : txt x = s) (hk : ern x = k) (ht : Tabs w) : Calls Tryz.prog 37 #[.string S, .int .i64 (b : Int)] w (Ans s k w) :=
  (numFromBase_c S b hb hb2 hS w ht).mono fun _ _ h => by
    rcases h with ⟨_, h1, h2⟩ | ⟨hn, _⟩
    · rw [hx] at h1; exact ans_mk ⟨h1, h2⟩ hs hk
    · exact absurd hf hn
theorem law_frombase_form (b : Nat) (hb : 2 ≤ b) (hb2 : b ≤ 36) (hS : S.size ≤ 1000) (hf : ¬ formB b S.data.toList) (ht : Tabs w) : Calls Tryz.prog 37 #[.string S, .int .i64 (b : Int)] w (Ans ⟨#[]⟩ 7 w) :=
  (numFromBase_c S b hb hb2 hS w ht).mono fun _ _ h => by
    rcases h with ⟨h1, _⟩ | ⟨_, h1⟩
    · exact absurd h1 hf
    · exact h1
theorem law_fromint (hn : -9223372036854775808 ≤ n) (hn2 : n ≤ 9223372036854775807) (hs : txt n = s) (ht : Tabs w) : Calls Tryz.prog 50 #[.int .i64 n] w fun e w' => e = .returned (.string s) ∧ Below w.heap.size w w' :=
  (fromInt_c n hn hn2 w ht).mono fun _ _ ⟨h1, h2⟩ => by
    refine ⟨?_, h2⟩
    rw [h1, ← hs, txt, if_pos (by omega)]
end
end Go.Proofs.YtbjgpbdkofadiaaGreatDoor
