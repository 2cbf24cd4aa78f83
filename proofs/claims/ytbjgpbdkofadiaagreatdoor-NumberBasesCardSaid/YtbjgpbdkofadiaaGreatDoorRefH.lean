/- The reference's Of: the plain law; words for texts and rows. -/
import Derived.Test.YtbjgpbdkofadiaaGreatDoorRefG
namespace Go.Proofs.YtbjgpbdkofadiaaGreatDoor
set_option linter.unusedVariables false
set_option linter.unusedSimpArgs false
open Go.RowKit Go.Shelf

/-- A digit's value. -/
def dval (b : UInt8) : Int := (b.toNat : Int) - 48
theorem val_rev : ∀ {d : List UInt8}, (∀ b ∈ d, isDig b) → val 10 (d.map dval).reverse = (decVal d : Int)
  | [], _ => rfl
  | b :: t, h => by
    have hb := h b (List.mem_cons_self ..)
    have h1 := hb.1
    have e : decVal [b] = b.toNat - 48 := by simp [decVal]
    rw [List.map_cons, List.reverse_cons, val_snoc, val_rev (fun c hc => h c (List.mem_cons_of_mem _ hc)), show b :: t = [b] ++ t from rfl, decVal_append, e]
    simp only [List.length_reverse, List.length_map, dval]
    rw [Int.natCast_add, Int.natCast_mul, Int.natCast_pow, Int.natCast_sub h1, Int.mul_comm, Int.add_comm]
    rfl
theorem inR_rev {d : List UInt8} (h : ∀ b ∈ d, isDig b) : InR 10 (d.map dval).reverse := by
  intro x hx
  rw [List.mem_reverse, List.mem_map] at hx
  obtain ⟨b, hb, rfl⟩ := hx
  have h1 := (h b hb).1
  have h2 := (h b hb).2
  unfold dval
  constructor <;> omega
theorem at_list (S : ByteArray) (a : UInt8) (t : List UInt8) (h : S.data.toList = a :: t) : ∃ h0 : 0 < S.size, S[0] = a := by
  have hl : 0 < S.data.toList.length := by rw [h]; simp
  refine ⟨by rw [Array.length_toList] at hl; exact hl, ?_⟩
  have : S.data.toList[0]'hl = a := by simp [h]
  rw [← this]; rfl
theorem text_neg {S : ByteArray} {z : Int} (h : NumL S.data.toList z) (hz : z < 0) : (∃ h0 : 0 < S.size, S[0] = 45) ∧ (S.extract 1 S.size).data.toList = Lib.decDigits z.natAbs := by
  have e : S.data.toList = 45 :: Lib.decDigits z.natAbs := by rw [h.1, Lib.itoa, if_pos hz]
  refine ⟨at_list _ _ _ e, ?_⟩
  rw [ext_list, List.take_of_length_le (by rw [Array.length_toList]; exact Nat.le_refl _), e]
  rfl
theorem text_pos {S : ByteArray} {z : Int} (h : NumL S.data.toList z) (hz : ¬ z < 0) : (∃ h0 : 0 < S.size, S[0] ≠ 45) ∧ S.data.toList = Lib.decDigits z.natAbs := by
  have e : S.data.toList = Lib.decDigits z.natAbs := by rw [h.1, Lib.itoa, if_neg hz, show z.toNat = z.natAbs by omega]
  refine ⟨?_, e⟩
  cases hl : Lib.decDigits z.natAbs with
  | nil => exact absurd hl (decDigits_ne _)
  | cons a t =>
    obtain ⟨h0, ha⟩ := at_list _ _ _ (e.trans hl)
    refine ⟨h0, ?_⟩
    rw [ha]
    intro e
    have := (decDigits_dig z.natAbs a (by rw [hl]; simp)).1
    rw [e] at this
    simp at this
/-- The digits of D. -/
structure DecT (D : ByteArray) (n : Nat) : Prop where
  l_ : D.data.toList = Lib.decDigits n
  le : D.size ≤ 200
  dg : ∀ j (h : j < D.size), isDig D[j]
theorem decT {D : ByteArray} {n : Nat} (h : D.data.toList = Lib.decDigits n) (hn : n < 10 ^ 200) : DecT D n := by
  refine ⟨h, ?_, fun j hj => ?_⟩
  · have := (len200 n).2 hn
    rw [← h, Array.length_toList] at this
    exact this
  · exact decDigits_dig n _ (by rw [← h]; exact Array.getElem_mem_toList (xs := D.data) (i := j) hj)
/-- The digits from place g on, the last one first. -/
def revFrom (D : ByteArray) (g : Nat) : List Int := ((D.data.toList.drop g).map dval).reverse
theorem revFrom_end (D : ByteArray) : revFrom D D.size = [] := by
  unfold revFrom
  rw [List.drop_eq_nil_of_le (by rw [Array.length_toList]; exact Nat.le_refl _)]; rfl
theorem revFrom_step (D : ByteArray) (g : Nat) (h : g < D.size) : revFrom D g = revFrom D (g + 1) ++ [(D[g].toNat : Int) - 48] := by
  unfold revFrom
  rw [List.drop_eq_getElem_cons (by rw [Array.length_toList]; exact h), List.map_cons, List.reverse_cons]
  rfl
theorem revFrom_zero {D : ByteArray} {n : Nat} (h : DecT D n) : InR 10 (revFrom D 0) ∧ val 10 (revFrom D 0) = (n : Int) := by
  have hd : ∀ b ∈ D.data.toList, isDig b := by rw [h.l_]; exact decDigits_dig n
  refine ⟨inR_rev hd, ?_⟩
  unfold revFrom
  rw [List.drop_zero, val_rev hd, h.l_, decVal_decDigits]
theorem revFrom_len (D : ByteArray) (g : Nat) (h : g ≤ D.size) : (revFrom D g).length = D.size - g := by
  simp [revFrom]
theorem grown_put {w w1 : World} {v : Value} {B : Nat} {o : Obj} (hg : w.grownBy w1 v.ownBlock) (hb : w.heap[B]? = some o) (hv : v.ownBlock ≠ some B) : w1.heap[B]? = some o := by
  rw [hg.block B (Array.getElem?_eq_some_iff.1 hb).1 (Ne.symm hv)]; exact hb
theorem own_ne {w : World} {base : Nat} {e : TypeId} {size : Nat} {v : Value} {n : Nat} {xs : List Value} (h : w.ownsRow base e size v n xs) {B : Nat} (hB : B < base) : v.ownBlock ≠ some B := fun e => by
  have := (h.lt _ e).1
  omega
end Go.Proofs.YtbjgpbdkofadiaaGreatDoor
