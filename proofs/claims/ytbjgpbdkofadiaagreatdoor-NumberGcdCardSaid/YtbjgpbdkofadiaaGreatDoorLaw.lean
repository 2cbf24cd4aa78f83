/- The functions at valid integers, as the laws call them. -/
import Derived.Test.YtbjgpbdkofadiaaGreatDoorFromBase
namespace Go.Proofs.YtbjgpbdkofadiaaGreatDoor
set_option linter.unusedVariables false
set_option linter.unusedSimpArgs false
open Go.RowKit Go.Shelf Go.Proofs

/-- The text of an integer that fits, else none; the error. -/
def txt (z : Int) : ByteArray := if z.natAbs < 10 ^ 200 then ⟨(Lib.itoa z).toArray⟩ else ⟨#[]⟩
def ern (z : Int) : Int := if z.natAbs < 10 ^ 200 then 0 else 3
theorem textOut_res (z : Int) : (textOut z).res (.string ⟨#[]⟩) = .tuple #[.string (txt z), .int .i64 (ern z)] := by
  unfold textOut txt ern
  by_cases h : z.natAbs < 10 ^ 200
  · rw [if_pos h, if_pos h, if_pos h]; rfl
  · rw [if_neg h, if_neg h, if_neg h]; rfl
theorem ern_or (z : Int) : ern z = 0 ∨ ern z = 3 := by
  unfold ern; split
  · exact .inl rfl
  · exact .inr rfl
theorem num_of {z : Int} {s : ByteArray} {e : Int} (hs : txt z = s) (he : ern z = e) (h0 : e = 0) : NumL s.data.toList z := by
  have hf : z.natAbs < 10 ^ 200 := by
    by_cases h : z.natAbs < 10 ^ 200
    · exact h
    · rw [ern, if_neg h] at he; omega
  refine ⟨?_, hf⟩
  rw [← hs, txt, if_pos hf]
theorem num_txt {s : ByteArray} {z : Int} (h : NumL s.data.toList z) : txt z = s ∧ ern z = 0 := by
  refine ⟨?_, if_pos h.2⟩
  rw [txt, if_pos h.2, ← h.1]
theorem num_eq {s t : ByteArray} {x y : Int} (hs : NumL s.data.toList x) (ht : NumL t.data.toList y) : s = t ↔ x = y := by
  rw [← (num_txt hs).1, ← (num_txt ht).1]
  constructor
  · intro h
    have h1 := congrArg (fun b : ByteArray => b.data.toList) h
    simp only [txt, if_pos hs.2, if_pos ht.2] at h1
    exact itoa_inj h1
  · intro h; rw [h]
theorem num_zero : NumL [48] 0 := ⟨by rw [Lib.itoa, if_neg (by decide)]; exact decDigits_zero.symm, by decide⟩
theorem num_is_zero {s : ByteArray} {x : Int} (hs : NumL s.data.toList x) : (s.toList == [48]) = decide (x = 0) := by
  rw [ByteArray.toList_eq, Bool.eq_iff_iff, beq_iff_eq, decide_eq_true_iff]
  constructor
  · intro h; rw [h] at hs; exact itoa_inj (hs.1.symm.trans num_zero.1)
  · intro h; rw [h] at hs; rw [hs.1, ← num_zero.1]

theorem un_at {S : ByteArray} {f : Int → Out} {zv : Value} {w w' : World} {e : Ending} {x : Int} (h : Un S f zv w e w') (hx : NumL S.data.toList x) : e = .returned ((f x).res zv) ∧ Below w.heap.size w w' := by
  obtain ⟨h, hb⟩ := h
  rcases h with ⟨x', hx', rfl⟩ | ⟨hn, _⟩
  · rw [itoa_inj (hx.1.symm.trans hx'.1)]; exact ⟨rfl, hb⟩
  · exact absurd ⟨x, hx⟩ hn
theorem bi_at {S T : ByteArray} {f : Int → Int → Out} {zv : Value} {w w' : World} {e : Ending} {x y : Int} (h : Bi S T f zv w e w') (hx : NumL S.data.toList x) (hy : NumL T.data.toList y) : e = .returned ((f x y).res zv) ∧ Below w.heap.size w w' := by
  obtain ⟨h, hb⟩ := h
  rcases h with ⟨x', y', hx', hy', rfl⟩ | ⟨hn, _⟩
  · rw [itoa_inj (hx.1.symm.trans hx'.1), itoa_inj (hy.1.symm.trans hy'.1)]; exact ⟨rfl, hb⟩
  · exact absurd ⟨⟨x, hx⟩, y, hy⟩ hn

/-- A call answers with the text s and the error k. -/
def Ans (s : ByteArray) (k : Int) (w : World) (e : Ending) (w' : World) : Prop := e = .returned (.tuple #[.string s, .int .i64 k]) ∧ Below w.heap.size w w'
/-- A call answers with the int n and no error. -/
def AnsI (n : Int) (w : World) (e : Ending) (w' : World) : Prop := e = .returned (.tuple #[.int .i64 n, .int .i64 0]) ∧ Below w.heap.size w w'
theorem ans_mk {z : Int} {s : ByteArray} {k : Int} {w w' : World} {e : Ending} (h : e = .returned ((textOut z).res (.string ⟨#[]⟩)) ∧ Below w.heap.size w w') (hs : txt z = s) (hk : ern z = k) : Ans s k w e w' := by
  rw [textOut_res, hs, hk] at h; exact h

section
variable (S T : ByteArray) (x y : Int) (s : ByteArray) (k : Int) (w : World)
theorem law_add (hS : NumL S.data.toList x) (hT : NumL T.data.toList y) (hs : txt (x + y) = s) (hk : ern (x + y) = k) (ht : Tabs w) : Calls Tryz.prog 42 #[.string S, .string T] w (Ans s k w) :=
  (numAdd_c S T w ht).mono fun _ _ h => ans_mk (bi_at h hS hT) hs hk
theorem law_mul (hS : NumL S.data.toList x) (hT : NumL T.data.toList y) (hs : txt (x * y) = s) (hk : ern (x * y) = k) (ht : Tabs w) : Calls Tryz.prog 19 #[.string S, .string T] w (Ans s k w) :=
  (numMul_c S T w ht).mono fun _ _ h => ans_mk (bi_at h hS hT) hs hk
theorem law_sub (hS : NumL S.data.toList x) (hT : NumL T.data.toList y) (hs : txt (x + -y) = s) (hk : ern (x + -y) = k) (ht : Tabs w) : Calls Tryz.prog 44 #[.string S, .string T] w (Ans s k w) :=
  (numSub_c S T w ht).mono fun _ _ h => ans_mk (bi_at h hS hT) hs hk
theorem law_neg (hS : NumL S.data.toList x) (hs : txt (-x) = s) (hk : ern (-x) = k) (ht : Tabs w) : Calls Tryz.prog 43 #[.string S] w (Ans s k w) :=
  (neg_c S w ht).mono fun _ _ h => ans_mk (z := -x) (un_at (f := fun x => textOut (-x)) h hS) hs hk
theorem law_abs (hS : NumL S.data.toList x) (hs : txt (x.natAbs : Int) = s) (hk : ern (x.natAbs : Int) = k) (ht : Tabs w) : Calls Tryz.prog 49 #[.string S] w (Ans s k w) :=
  (abs_c S w ht).mono fun _ _ h => ans_mk (z := (x.natAbs : Int)) (un_at (f := fun x => textOut (x.natAbs : Int)) h hS) hs hk
theorem law_cmp (hS : NumL S.data.toList x) (hT : NumL T.data.toList y) (ht : Tabs w) : Calls Tryz.prog 45 #[.string S, .string T] w (AnsI (sgn (x + -y)) w) :=
  (numCmp_c S T w ht).mono fun _ _ h => bi_at h hS hT
theorem law_sign (hS : NumL S.data.toList x) (ht : Tabs w) : Calls Tryz.prog 48 #[.string S] w (AnsI (sgn x) w) :=
  (signx_c S w ht).mono fun _ _ h => un_at h hS
end

set_option maxHeartbeats 1000000 in
theorem same_c (s t : ByteArray) (i j : Int) (w : World) (h : s = t ∨ i ≠ 0 ∨ j ≠ 0) : Calls Tryz.prog 41 #[.string s, .int .i64 i, .string t, .int .i64 j] w fun e w' => e = .returned (.bool true) ∧ w = w' := by
  by_cases hi : i = 0
  · by_cases hj : j = 0
    · obtain rfl : s = t := by rcases h with h | h | h <;> first | exact h | exact absurd hi h | exact absurd hj h
      subst hi hj
      go_enter Tryz.func41, Tryz.ntmps41
      go_wp2
      go_ret
      exact ⟨rfl, rfl⟩
    · have hjb : (j == 0) = false := by simp [hj]
      subst hi
      clear h
      go_enter Tryz.func41, Tryz.ntmps41
      go_wp2
      go_ret
      exact ⟨rfl, rfl⟩
  · have hib : (i == 0) = false := by simp [hi]
    clear h
    go_enter Tryz.func41, Tryz.ntmps41
    go_wp2
    go_ret
    exact ⟨rfl, rfl⟩

set_option maxHeartbeats 1000000 in
theorem short_c (s : ByteArray) (w : World) : Calls Tryz.prog 17 #[.string s] w fun e w' => e = .returned (.bool (decide (s.size ≤ 300))) ∧ w = w' := by
  by_cases h : s.size ≤ 300
  · have hb : decide ((s.size : Int) ≤ 300) = true := by simp; omega
    rw [decide_eq_true h]
    go_enter Tryz.func17, Tryz.ntmps17
    go_wp2
    go_ret
    exact ⟨rfl, rfl⟩
  · have hb : decide ((s.size : Int) ≤ 300) = false := by simp; omega
    rw [decide_eq_false h]
    go_enter Tryz.func17, Tryz.ntmps17
    go_wp2
    go_ret
    exact ⟨rfl, rfl⟩

end Go.Proofs.YtbjgpbdkofadiaaGreatDoor
