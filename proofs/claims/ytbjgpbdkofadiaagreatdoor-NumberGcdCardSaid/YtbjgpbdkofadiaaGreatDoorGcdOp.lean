/- Gcd. -/
import Derived.Test.YtbjgpbdkofadiaaGreatDoorGcdT
import Derived.Test.YtbjgpbdkofadiaaGreatDoorOps2
namespace Go.Proofs.YtbjgpbdkofadiaaGreatDoor
set_option linter.unusedVariables false
set_option linter.unusedSimpArgs false
open Go.RowKit Go.Shelf Go.Proofs

/-- The three texts and the error. -/
def four : Out → Value
  | .ok (.agg #[a, b, c]) => .tuple #[a, b, c, .int .i64 0]
  | .ok v => v
  | .err k => .tuple #[.string ⟨#[]⟩, .string ⟨#[]⟩, .string ⟨#[]⟩, .int .i64 k]
/-- What Gcd of two strings returns. -/
def GcdA (S T : ByteArray) (w : World) (e : Ending) (w' : World) : Prop :=
  ((∃ x y, NumL S.data.toList x ∧ NumL T.data.toList y ∧ e = .returned (four (gcdOut x y))) ∨ ((¬ ((∃ x, NumL S.data.toList x) ∧ ∃ y, NumL T.data.toList y)) ∧ e = .returned (.tuple #[.string ⟨#[]⟩, .string ⟨#[]⟩, .string ⟨#[]⟩, .int .i64 1]))) ∧ Below w.heap.size w w'
theorem GcdA.more {S T : ByteArray} {w w1 w2 : World} {e : Ending} (h : GcdA S T w e w1) (hb : Below w1.heap.size w1 w2) : GcdA S T w e w2 := ⟨h.1, below_then' h.2 hb⟩
noncomputable def gd2 (zs : List Int) : Out := gcdOut (zs.headD 0) (zs.getD 1 0)
theorem gcdOut_form (x y : Int) : (∃ a b c, gcdOut x y = .ok (.agg #[.string a, .string b, .string c])) ∨ ∃ k, gcdOut x y = .err k := by
  unfold gcdOut
  split
  · exact .inl ⟨_, _, _, rfl⟩
  · exact .inr ⟨_, rfl⟩
theorem with_gcd {S T : ByteArray} {w w0 w' : World} {e : Ending} (h : WithP [S, T] gd2 (.agg #[.string ⟨#[]⟩, .string ⟨#[]⟩, .string ⟨#[]⟩]) w0 e w') (hb : Below w.heap.size w w0) :
    ∃ a b c k, e = .returned (.tuple #[.agg #[.string a, .string b, .string c], .int .i64 k]) ∧ GcdA S T w (.returned (.tuple #[.string a, .string b, .string c, .int .i64 k])) w' := by
  obtain ⟨h, h2⟩ := h
  have hbb := below_then' hb h2
  rcases h with ⟨zs, hz, rfl⟩ | ⟨hn, rfl⟩
  · obtain ⟨x, y, rfl, hx, hy⟩ := two_zs hz
    have e2 : gd2 [x, y] = gcdOut x y := rfl
    rw [e2]
    rcases gcdOut_form x y with ⟨a, b, c, h'⟩ | ⟨k, h'⟩
    · rw [h']; exact ⟨a, b, c, 0, rfl, .inl ⟨x, y, hx, hy, by rw [h']; rfl⟩, hbb⟩
    · rw [h']; exact ⟨_, _, _, k, rfl, .inl ⟨x, y, hx, hy, by rw [h']; rfl⟩, hbb⟩
  · refine ⟨_, _, _, _, rfl, .inr ⟨?_, rfl⟩, hbb⟩
    rintro ⟨⟨x, hx⟩, y, hy⟩
    refine hn ⟨[x, y], rfl, fun j hj => ?_⟩
    match j, hj with
    | 0, _ => simpa using hx
    | 1, _ => simpa using hy

set_option maxRecDepth 100000 in
set_option maxHeartbeats 2000000 in
theorem numGcd_g (S T : ByteArray) (w : World) (ht : Tabs w)
    (hd : ∀ x y, NumL S.data.toList x → NumL T.data.toList y → ∀ W v1 v2, Wh W v1 x → Wh W v2 y → Calls Tryz.prog 70 #[v1, v2] W (DivP x y W)) :
    Calls Tryz.prog 32 #[.string S, .string T] w (GcdA S T w) := by
  have HT := Lib.hid ht
  have HD := Lib.hid hd
  have HS2 : Hid (Strs (w.alloc (.cells #[.string S, .string T] 9)) (.slice (some ⟨w.heap.size, 0, none⟩) 2 2) [S, T]) := strs_two w S T 9
  clear ht hd
  go_enter Tryz.func32, Tryz.ntmps32
  go_wp2_with (go_at_call 68; refine (with3_c 69 #[] (enters_of Tryz.func69 (by kernel_rfl) rfl) _ [S, T] gd2 _ HS2.out (by simp) ?hok ?hf).mono ?_)
  case hok =>
    intro zs r hz h
    obtain ⟨x, y, rfl, hx, hy⟩ := two_zs hz
    have e2 : gd2 [x, y] = gcdOut x y := rfl
    rw [e2] at h
    rcases gcdOut_form x y with ⟨a, b, c, h'⟩ | ⟨k, h'⟩
    · rw [h'] at h; cases h; exact ⟨a, b, c, rfl⟩
    · rw [h'] at h; cases h
  case hf =>
    intro zs hz W lv hb hw
    obtain ⟨x, y, rfl, hx, hy⟩ := two_zs hz
    exact gcd1_c lv x y W hw (HT.out.below (Below.trans ((Below.refl w.heap.size w).alloc (Nat.le_refl _) _) (hb.mono (by first | (simp; done) | (simp; omega) | omega)))) (HD.out x y hx hy)
  rintro e w' h
  obtain ⟨a, b, c, k, rfl, hr⟩ := with_gcd h ((Below.refl w.heap.size w).alloc (Nat.le_refl _) _)
  have HR := Lib.hid hr
  clear h hr
  go_wp2_with fail
  go_region
  all_goals
    go_wp2
    refine bodyPost_ret (v := .tuple #[.string a, .string b, .string c, .int .i64 k]) (by simp [results, Tryz.results32, go_sem]) rfl ?_
    exact HR.out.more (((Below.refl _ w').alloc (Nat.le_refl _) _).drew)

end Go.Proofs.YtbjgpbdkofadiaaGreatDoor
