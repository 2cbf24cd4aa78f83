/- integers, and sanity as a premise; the law NumberRing. -/
import Derived.Test.YtbjgpbdkofadiaaGreatDoorLaw
namespace Go.Proofs.YtbjgpbdkofadiaaGreatDoor
set_option linter.unusedVariables false
set_option linter.unusedSimpArgs false
open Go.RowKit Go.Shelf Go.Proofs

/-- What the laws ask of sanity. -/
def San : Prop := ∀ w : World, Tabs w → Calls Tryz.prog 18 #[] w fun e w' => e = .returned (.bool true) ∧ Below w.heap.size w w'

/-- b tells whether S is an integer's text. -/
def VB (b : Bool) (S : ByteArray) : Prop := b = true ↔ ∃ z, NumL S.data.toList z
def SB3 (b : Bool) (S : ByteArray) : Prop := decide (S.size ≤ 300) = b
/-- Valid, its answer known. -/
theorem valid_at (S : ByteArray) (b : Bool) (w : World) (h : VB b S) : Calls Tryz.prog 52 #[.string S] w fun e w' => e = .returned (.bool b) ∧ Below w.heap.size w w' := by
  refine (valid_c S w).mono ?_
  rintro e w' ⟨⟨b', rfl, hb'⟩, hb⟩
  have h' : b = true ↔ ∃ z, NumL S.data.toList z := h
  have : b' = b := by
    cases b <;> cases b' <;> simp_all
  rw [this]; exact ⟨rfl, hb⟩
theorem short_at (S : ByteArray) (b : Bool) (w : World) (h : SB3 b S) : Calls Tryz.prog 17 #[.string S] w fun e w' => e = .returned (.bool b) ∧ w = w' := by
  rw [show b = decide (S.size ≤ 300) from h.symm]; exact short_c S w

set_option maxRecDepth 100000 in
set_option maxHeartbeats 4000000 in
theorem integers_g (a b c : ByteArray) (sa sb sc va vb vc : Bool) (w : World) (h1 : SB3 sa a) (h2 : SB3 sb b) (h3 : SB3 sc c) (h4 : VB va a) (h5 : VB vb b) (h6 : VB vc c) :
    Calls Tryz.prog 40 #[.string a, .string b, .string c] w fun e w' => e = .returned (.bool (sa && sb && sc && va && vb && vc)) ∧ Below w.heap.size w w' := by
  have H1 := Lib.hid h1
  have H2 := Lib.hid h2
  have H3 := Lib.hid h3
  have H4 := Lib.hid h4
  have H5 := Lib.hid h5
  have H6 := Lib.hid h6
  have HB : Hid (Below w.heap.size w w) := Below.refl _ _
  clear h1 h2 h3 h4 h5 h6
  cases sa
  · go_enter Tryz.func40, Tryz.ntmps40
    go_wp2_with (first | (go_at_call 17; with_reducible refine (short_at a _ _ H1.out).mono ?_; rintro e W ⟨rfl, rfl⟩) | (go_at_call 17; with_reducible refine (short_at b _ _ H2.out).mono ?_; rintro e W ⟨rfl, rfl⟩) | (go_at_call 17; with_reducible refine (short_at c _ _ H3.out).mono ?_; rintro e W ⟨rfl, rfl⟩) | (go_at_call 52; with_reducible refine (valid_at a _ _ H4.out).mono ?_; rintro e W ⟨rfl, hbz⟩; have HB := Lib.hid (below_then' HB.out hbz); clear hbz) | (go_at_call 52; with_reducible refine (valid_at b _ _ H5.out).mono ?_; rintro e W ⟨rfl, hbz⟩; have HB := Lib.hid (below_then' HB.out hbz); clear hbz) | (go_at_call 52; with_reducible refine (valid_at c _ _ H6.out).mono ?_; rintro e W ⟨rfl, hbz⟩; have HB := Lib.hid (below_then' HB.out hbz); clear hbz))
    go_ret
    exact ⟨rfl, HB.out⟩
  · cases sb
    · go_enter Tryz.func40, Tryz.ntmps40
      go_wp2_with (first | (go_at_call 17; with_reducible refine (short_at a _ _ H1.out).mono ?_; rintro e W ⟨rfl, rfl⟩) | (go_at_call 17; with_reducible refine (short_at b _ _ H2.out).mono ?_; rintro e W ⟨rfl, rfl⟩) | (go_at_call 17; with_reducible refine (short_at c _ _ H3.out).mono ?_; rintro e W ⟨rfl, rfl⟩) | (go_at_call 52; with_reducible refine (valid_at a _ _ H4.out).mono ?_; rintro e W ⟨rfl, hbz⟩; have HB := Lib.hid (below_then' HB.out hbz); clear hbz) | (go_at_call 52; with_reducible refine (valid_at b _ _ H5.out).mono ?_; rintro e W ⟨rfl, hbz⟩; have HB := Lib.hid (below_then' HB.out hbz); clear hbz) | (go_at_call 52; with_reducible refine (valid_at c _ _ H6.out).mono ?_; rintro e W ⟨rfl, hbz⟩; have HB := Lib.hid (below_then' HB.out hbz); clear hbz))
      go_ret
      exact ⟨rfl, HB.out⟩
    · cases sc
      · go_enter Tryz.func40, Tryz.ntmps40
        go_wp2_with (first | (go_at_call 17; with_reducible refine (short_at a _ _ H1.out).mono ?_; rintro e W ⟨rfl, rfl⟩) | (go_at_call 17; with_reducible refine (short_at b _ _ H2.out).mono ?_; rintro e W ⟨rfl, rfl⟩) | (go_at_call 17; with_reducible refine (short_at c _ _ H3.out).mono ?_; rintro e W ⟨rfl, rfl⟩) | (go_at_call 52; with_reducible refine (valid_at a _ _ H4.out).mono ?_; rintro e W ⟨rfl, hbz⟩; have HB := Lib.hid (below_then' HB.out hbz); clear hbz) | (go_at_call 52; with_reducible refine (valid_at b _ _ H5.out).mono ?_; rintro e W ⟨rfl, hbz⟩; have HB := Lib.hid (below_then' HB.out hbz); clear hbz) | (go_at_call 52; with_reducible refine (valid_at c _ _ H6.out).mono ?_; rintro e W ⟨rfl, hbz⟩; have HB := Lib.hid (below_then' HB.out hbz); clear hbz))
        go_ret
        exact ⟨rfl, HB.out⟩
      · cases va
        · go_enter Tryz.func40, Tryz.ntmps40
          go_wp2_with (first | (go_at_call 17; with_reducible refine (short_at a _ _ H1.out).mono ?_; rintro e W ⟨rfl, rfl⟩) | (go_at_call 17; with_reducible refine (short_at b _ _ H2.out).mono ?_; rintro e W ⟨rfl, rfl⟩) | (go_at_call 17; with_reducible refine (short_at c _ _ H3.out).mono ?_; rintro e W ⟨rfl, rfl⟩) | (go_at_call 52; with_reducible refine (valid_at a _ _ H4.out).mono ?_; rintro e W ⟨rfl, hbz⟩; have HB := Lib.hid (below_then' HB.out hbz); clear hbz) | (go_at_call 52; with_reducible refine (valid_at b _ _ H5.out).mono ?_; rintro e W ⟨rfl, hbz⟩; have HB := Lib.hid (below_then' HB.out hbz); clear hbz) | (go_at_call 52; with_reducible refine (valid_at c _ _ H6.out).mono ?_; rintro e W ⟨rfl, hbz⟩; have HB := Lib.hid (below_then' HB.out hbz); clear hbz))
          go_ret
          exact ⟨rfl, HB.out⟩
        · cases vb
          · go_enter Tryz.func40, Tryz.ntmps40
            go_wp2_with (first | (go_at_call 17; with_reducible refine (short_at a _ _ H1.out).mono ?_; rintro e W ⟨rfl, rfl⟩) | (go_at_call 17; with_reducible refine (short_at b _ _ H2.out).mono ?_; rintro e W ⟨rfl, rfl⟩) | (go_at_call 17; with_reducible refine (short_at c _ _ H3.out).mono ?_; rintro e W ⟨rfl, rfl⟩) | (go_at_call 52; with_reducible refine (valid_at a _ _ H4.out).mono ?_; rintro e W ⟨rfl, hbz⟩; have HB := Lib.hid (below_then' HB.out hbz); clear hbz) | (go_at_call 52; with_reducible refine (valid_at b _ _ H5.out).mono ?_; rintro e W ⟨rfl, hbz⟩; have HB := Lib.hid (below_then' HB.out hbz); clear hbz) | (go_at_call 52; with_reducible refine (valid_at c _ _ H6.out).mono ?_; rintro e W ⟨rfl, hbz⟩; have HB := Lib.hid (below_then' HB.out hbz); clear hbz))
            go_ret
            exact ⟨rfl, HB.out⟩
          · cases vc
            · go_enter Tryz.func40, Tryz.ntmps40
              go_wp2_with (first | (go_at_call 17; with_reducible refine (short_at a _ _ H1.out).mono ?_; rintro e W ⟨rfl, rfl⟩) | (go_at_call 17; with_reducible refine (short_at b _ _ H2.out).mono ?_; rintro e W ⟨rfl, rfl⟩) | (go_at_call 17; with_reducible refine (short_at c _ _ H3.out).mono ?_; rintro e W ⟨rfl, rfl⟩) | (go_at_call 52; with_reducible refine (valid_at a _ _ H4.out).mono ?_; rintro e W ⟨rfl, hbz⟩; have HB := Lib.hid (below_then' HB.out hbz); clear hbz) | (go_at_call 52; with_reducible refine (valid_at b _ _ H5.out).mono ?_; rintro e W ⟨rfl, hbz⟩; have HB := Lib.hid (below_then' HB.out hbz); clear hbz) | (go_at_call 52; with_reducible refine (valid_at c _ _ H6.out).mono ?_; rintro e W ⟨rfl, hbz⟩; have HB := Lib.hid (below_then' HB.out hbz); clear hbz))
              go_ret
              exact ⟨rfl, HB.out⟩
            · go_enter Tryz.func40, Tryz.ntmps40
              go_wp2_with (first | (go_at_call 17; with_reducible refine (short_at a _ _ H1.out).mono ?_; rintro e W ⟨rfl, rfl⟩) | (go_at_call 17; with_reducible refine (short_at b _ _ H2.out).mono ?_; rintro e W ⟨rfl, rfl⟩) | (go_at_call 17; with_reducible refine (short_at c _ _ H3.out).mono ?_; rintro e W ⟨rfl, rfl⟩) | (go_at_call 52; with_reducible refine (valid_at a _ _ H4.out).mono ?_; rintro e W ⟨rfl, hbz⟩; have HB := Lib.hid (below_then' HB.out hbz); clear hbz) | (go_at_call 52; with_reducible refine (valid_at b _ _ H5.out).mono ?_; rintro e W ⟨rfl, hbz⟩; have HB := Lib.hid (below_then' HB.out hbz); clear hbz) | (go_at_call 52; with_reducible refine (valid_at c _ _ H6.out).mono ?_; rintro e W ⟨rfl, hbz⟩; have HB := Lib.hid (below_then' HB.out hbz); clear hbz))
              go_ret
              exact ⟨rfl, HB.out⟩

theorem integers_ok (a b c : ByteArray) (x y z : Int) (w : World) (ha : NumL a.data.toList x) (hb : NumL b.data.toList y) (hc : NumL c.data.toList z) :
    Calls Tryz.prog 40 #[.string a, .string b, .string c] w fun e w' => e = .returned (.bool true) ∧ Below w.heap.size w w' := by
  have sz : ∀ (s : ByteArray) (x : Int), NumL s.data.toList x → decide (s.size ≤ 300) = true := fun s x h => by
    have := numL_len h
    rw [Array.length_toList] at this
    have h2 : s.size ≤ 201 := this
    simp; omega
  exact integers_g a b c true true true true true true w (sz a x ha) (sz b y hb) (sz c z hc) ⟨fun _ => ⟨x, ha⟩, fun _ => rfl⟩ ⟨fun _ => ⟨y, hb⟩, fun _ => rfl⟩ ⟨fun _ => ⟨z, hc⟩, fun _ => rfl⟩

theorem integers_bad (a b c : ByteArray) (w : World) (h : ¬ ∃ x y z, NumL a.data.toList x ∧ NumL b.data.toList y ∧ NumL c.data.toList z) :
    Calls Tryz.prog 40 #[.string a, .string b, .string c] w fun e w' => e = .returned (.bool false) ∧ Below w.heap.size w w' := by
  have hb : ∀ p : Prop, ∃ v : Bool, v = true ↔ p := fun p => by
    by_cases hp : p
    · exact ⟨true, by simp [hp]⟩
    · exact ⟨false, by simp [hp]⟩
  obtain ⟨va, h4⟩ := hb (∃ z, NumL a.data.toList z)
  obtain ⟨vb, h5⟩ := hb (∃ z, NumL b.data.toList z)
  obtain ⟨vc, h6⟩ := hb (∃ z, NumL c.data.toList z)
  refine (integers_g a b c _ _ _ va vb vc w rfl rfl rfl h4 h5 h6).mono ?_
  rintro e w' ⟨rfl, hw⟩
  refine ⟨?_, hw⟩
  have : (va && vb && vc) = false := by
    rw [← Bool.not_eq_true]
    intro e
    simp only [Bool.and_eq_true] at e
    obtain ⟨⟨e1, e2⟩, e3⟩ := e
    obtain ⟨x, hx⟩ := h4.1 e1
    obtain ⟨y, hy⟩ := h5.1 e2
    obtain ⟨z, hz⟩ := h6.1 e3
    exact h ⟨x, y, z, hx, hy, hz⟩
  rw [Bool.and_assoc, Bool.and_assoc, ← Bool.and_assoc va, this, Bool.and_false]

end Go.Proofs.YtbjgpbdkofadiaaGreatDoor
