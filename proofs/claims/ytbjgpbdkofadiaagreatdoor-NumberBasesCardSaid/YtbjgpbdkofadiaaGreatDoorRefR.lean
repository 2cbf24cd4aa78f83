/- What the laws ask of results: is, refused. -/
import Derived.Test.YtbjgpbdkofadiaaGreatDoorRefN
import Derived.Test.YtbjgpbdkofadiaaGreatDoorM5
namespace Go.Proofs.YtbjgpbdkofadiaaGreatDoor
set_option linter.unusedVariables false
set_option linter.unusedSimpArgs false
open Go.RowKit Go.Shelf

set_option maxHeartbeats 400000 in
theorem refused_c (k : Int) (w : World) : Calls Tryz.prog 22 #[.string ⟨#[]⟩, .int .i64 k, .int .i64 k] w fun e w' => e = .returned (.bool true) ∧ w = w' := by
  go_enter Tryz.func22, Tryz.ntmps22
  go_wp2_with fail
  go_ret
  exact ⟨by simp, rfl⟩

theorem fits_len (n : Nat) : (dg 10 n).length ≤ 200 ↔ n < 10 ^ 200 := dg_length_le (by decide) _ _

set_option maxRecDepth 100000 in
set_option maxHeartbeats 2000000 in
theorem is_c (s : ByteArray) (k : Int) (v : Value) (z : Int) (w : World) (h : Ri w v z) (hl : (dg 10 z.natAbs).length ≤ 1000000) (hs : txt z = s) (hk : ern z = k) :
    Calls Tryz.prog 25 #[.string s, .int .i64 k, v] w fun e w' => e = .returned (.bool true) ∧ Below w.heap.size w w' := by
  obtain ⟨A, n, c, b, rfl⟩ := h.form
  obtain ⟨W, hW, c0, f0, hbel, hs1⟩ := boxes1 w #[.slice A n c, .bool b] 32
  have c00 := c0 0; have c01 := c0 1
  simp at c00 c01
  have HB0 := Lib.hid hbel.to
  have HR := Lib.hid (h.below hbel.to)
  have HL := Lib.hid hl
  clear c0 f0 hbel hs1 h hl
  by_cases hf : z.natAbs < 10 ^ 200
  · have HF : Hid (decide ((dg 10 z.natAbs).length ≤ 200) = true) := decide_eq_true ((fits_len _).2 hf)
    obtain rfl : k = 0 := by rw [← hk]; exact ern_fit hf
    have HS : Hid (⟨(Lib.itoa z).toArray⟩ = s) := by show _ = s; rw [← hs, txt, if_pos hf]
    clear hf hs hk
    go_enter Tryz.func25, Tryz.ntmps25
    go_wp2_with (first
      | (go_at_call 31; (with_reducible refine (rfits_c _ z _ HR.out).mono ?_); rintro e W2 ⟨he, hbz⟩; rw [HF.out] at he; subst he; have HB := Lib.hid hbz; have c00 := keep_cell hbz c00; have c01 := keep_cell hbz c01; clear hbz)
      | (go_at_call 62; (with_reducible refine (rtext_c _ z _ (HR.out.below HB.out) HL.out).mono ?_); rintro e W3 ⟨he, hbz⟩; rw [HS.out] at he; subst he; have HB := Lib.hid (below_then' HB.out hbz); clear hbz))
    go_ret
    exact ⟨by simp, below_then' HB0.out HB.out⟩
  · have HF : Hid (decide ((dg 10 z.natAbs).length ≤ 200) = false) := decide_eq_false fun h => hf ((fits_len _).1 h)
    obtain rfl : k = 3 := by rw [← hk, ern, if_neg hf]
    obtain rfl : s = ⟨#[]⟩ := by rw [← hs, txt, if_neg hf]
    clear hf hs hk
    go_enter Tryz.func25, Tryz.ntmps25
    go_wp2_with (go_at_call 31; (with_reducible refine (rfits_c _ z _ HR.out).mono ?_); rintro e W2 ⟨he, hbz⟩; rw [HF.out] at he; subst he; have HB := Lib.hid hbz; clear hbz)
    go_ret
    exact ⟨by simp, below_then' HB0.out HB.out⟩
theorem bi_bad {S T : ByteArray} {f : Int → Int → Out} {zv : Value} {w w' : World} {e : Ending} (h : Bi S T f zv w e w') (hn : ¬ ((∃ x, NumL S.data.toList x) ∧ ∃ y, NumL T.data.toList y)) : e = .returned (.tuple #[zv, .int .i64 1]) ∧ Below w.heap.size w w' := by
  obtain ⟨h, hb⟩ := h
  rcases h with ⟨x', y', hx', hy', rfl⟩ | ⟨_, rfl⟩
  · exact absurd ⟨⟨x', hx'⟩, y', hy'⟩ hn
  · exact ⟨rfl, hb⟩
theorem un_bad {S : ByteArray} {f : Int → Out} {zv : Value} {w w' : World} {e : Ending} (h : Un S f zv w e w') (hn : ¬ ∃ x, NumL S.data.toList x) : e = .returned (.tuple #[zv, .int .i64 1]) ∧ Below w.heap.size w w' := by
  obtain ⟨h, hb⟩ := h
  rcases h with ⟨x', hx', rfl⟩ | ⟨_, rfl⟩
  · exact absurd ⟨x', hx'⟩ hn
  · exact ⟨rfl, hb⟩
theorem rvalid_at (S : ByteArray) (b : Bool) (w : World) (h : VB b S) : Calls Tryz.prog 21 #[.string S] w fun e w' => e = .returned (.bool b) ∧ Below w.heap.size w w' := by
  refine (rvalid_c S w).mono fun e w' h2 => ?_
  obtain ⟨⟨b', rfl, hb'⟩, hbz⟩ := h2
  have e : b' = b := by rw [Bool.eq_iff_iff]; exact hb'.trans h.symm
  rw [e]
  exact ⟨rfl, hbz⟩
theorem vb_ex (S : ByteArray) : ∃ b, VB b S := by
  by_cases h : ∃ z, NumL S.data.toList z
  · exact ⟨true, fun _ => h, fun _ => rfl⟩
  · exact ⟨false, fun e => by (cases e), fun e => absurd e h⟩
theorem num_m1 : NumL [45, 49] (-1) := ⟨by decide +kernel, by decide⟩
theorem len_fit {x : Int} (h : x.natAbs < 10 ^ 200) : (dg 10 x.natAbs).length ≤ 1000 := Nat.le_trans ((dg_length_le (by decide) _ _).2 h) (by decide)
theorem len_sum {x y : Int} {k : Nat} (hx : (dg 10 x.natAbs).length ≤ k) (hy : (dg 10 y.natAbs).length ≤ k) : (dg 10 (x + y).natAbs).length ≤ k + 1 := by
  refine (dg_length_le (by decide) _ _).2 ?_
  have h1 := (dg_length_le (b := 10) (by decide) _ _).1 hx
  have h2 := (dg_length_le (b := 10) (by decide) _ _).1 hy
  rw [Nat.pow_succ]
  generalize 10 ^ k = P at *
  omega
theorem len_prod {x y : Int} {k : Nat} (hx : (dg 10 x.natAbs).length ≤ k) (hy : (dg 10 y.natAbs).length ≤ k) : (dg 10 (x * y).natAbs).length ≤ k + k := by
  refine (dg_length_le (by decide) _ _).2 ?_
  have h1 := (dg_length_le (b := 10) (by decide) _ _).1 hx
  have h2 := (dg_length_le (b := 10) (by decide) _ _).1 hy
  rw [Nat.pow_add, Int.natAbs_mul]
  exact Nat.mul_lt_mul'' h1 h2
end Go.Proofs.YtbjgpbdkofadiaaGreatDoor
