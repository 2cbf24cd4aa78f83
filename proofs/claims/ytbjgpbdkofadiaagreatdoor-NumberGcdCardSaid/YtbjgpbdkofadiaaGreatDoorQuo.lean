/- The exported functions Quo and Floor. -/
import Derived.Test.YtbjgpbdkofadiaaGreatDoorDiv
import Derived.Test.YtbjgpbdkofadiaaGreatDoorWhole5
import Derived.Test.YtbjgpbdkofadiaaGreatDoorRootF
namespace Go.Proofs.YtbjgpbdkofadiaaGreatDoor
set_option linter.unusedVariables false
set_option linter.unusedSimpArgs false
open Go.RowKit Go.Shelf Go.Proofs

/-- Three results out of what a division makes. -/
def three : Out → Value
  | .ok (.agg #[a, b]) => .tuple #[a, b, .int .i64 0]
  | .ok v => v
  | .err k => .tuple #[.string ⟨#[]⟩, .string ⟨#[]⟩, .int .i64 k]
/-- What a division of two strings returns. -/
def DivA (S T : ByteArray) (Q R : Int → Int → Int) (w : World) (e : Ending) (w' : World) : Prop :=
  ((∃ x y, NumL S.data.toList x ∧ NumL T.data.toList y ∧ e = .returned (three (divOut (Q x y) (R x y) y))) ∨ ((¬ ((∃ x, NumL S.data.toList x) ∧ ∃ y, NumL T.data.toList y)) ∧ e = .returned (.tuple #[.string ⟨#[]⟩, .string ⟨#[]⟩, .int .i64 1]))) ∧ Below w.heap.size w w'
theorem DivA.more {S T : ByteArray} {Q R : Int → Int → Int} {w w1 w2 : World} {e : Ending} (h : DivA S T Q R w e w1) (hb : Below w1.heap.size w1 w2) : DivA S T Q R w e w2 := ⟨h.1, below_then' h.2 hb⟩
def dv2 (Q R : Int → Int → Int) (zs : List Int) : Out := divOut (Q (zs.headD 0) (zs.getD 1 0)) (R (zs.headD 0) (zs.getD 1 0)) (zs.getD 1 0)

theorem divOut_form (Q R y : Int) : (∃ a b, divOut Q R y = .ok (.agg #[.string a, .string b])) ∨ ∃ k, divOut Q R y = .err k := by
  unfold divOut
  split
  · exact .inr ⟨_, rfl⟩
  · split
    · exact .inl ⟨_, _, rfl⟩
    · exact .inr ⟨_, rfl⟩

theorem with_div {S T : ByteArray} {Q R : Int → Int → Int} {w w1 : World} {e : Ending} {w' : World} (h : WithP [S, T] (dv2 Q R) (.agg #[.string ⟨#[]⟩, .string ⟨#[]⟩]) w1 e w') (hb : Below w.heap.size w w1) :
    ∃ a b k, e = .returned (.tuple #[.agg #[.string a, .string b], .int .i64 k]) ∧ DivA S T Q R w (.returned (.tuple #[.string a, .string b, .int .i64 k])) w' := by
  obtain ⟨h, hb2⟩ := h
  have hbb := below_then' hb hb2
  rcases h with ⟨zs, hz, rfl⟩ | ⟨hn, rfl⟩
  · obtain ⟨x, y, rfl, hx, hy⟩ := two_zs hz
    have e2 : dv2 Q R [x, y] = divOut (Q x y) (R x y) y := rfl
    rw [e2]
    rcases divOut_form (Q x y) (R x y) y with ⟨a, b, h⟩ | ⟨k, h⟩
    · exact ⟨a, b, 0, by rw [h]; rfl, .inl ⟨x, y, hx, hy, by rw [h]; rfl⟩, hbb⟩
    · exact ⟨_, _, k, by rw [h]; rfl, .inl ⟨x, y, hx, hy, by rw [h]; rfl⟩, hbb⟩
  · refine ⟨_, _, _, rfl, .inr ⟨?_, rfl⟩, hbb⟩
    rintro ⟨⟨x, hx⟩, y, hy⟩
    refine hn ⟨[x, y], rfl, fun j hj => ?_⟩
    match j, hj with
    | 0, _ => simpa using hx
    | 1, _ => simpa using hy

theorem divided1_c (g : Nat) (eg : ∀ args w, (callFunc g args).run Tryz.prog w = .ok (.enter g args) w) (lv : Value) (b : Addr) (x y Q R : Int) (w : World) (h : Whs w lv [x, y]) (ht : Tabs w) (hb : w.cell? b = some (.func (.func g) #[] #[]))
    (hf : y ≠ 0 → (∀ W v1 v2, Wh W v1 x → Wh W v2 y → Calls Tryz.prog g #[v1, v2] W (TwoP Q R W)) ∧ (dg 1000000000 Q.natAbs).length ≤ 1000000 ∧ R.natAbs < 10 ^ 200) :
    Calls Tryz.prog 110 #[lv, .pointer (some b)] w fun e w' => e = (divOut Q R y).end_ ∧ Below w.heap.size w w' := by
  by_cases hy : y = 0
  · subst hy
    rw [show divOut Q R 0 = .err 5 from if_pos rfl]
    exact divided1_zero lv b x w h
  · obtain ⟨h1, h2, h3⟩ := hf hy
    exact divided1_some g eg lv b x y Q R w h ht hy hb h1 h2 h3

set_option maxRecDepth 100000 in
set_option maxHeartbeats 2000000 in
theorem divided_c (S T : ByteArray) (g : Nat) (eg : ∀ args w, (callFunc g args).run Tryz.prog w = .ok (.enter g args) w) (Q R : Int → Int → Int) (w : World) (ht : Tabs w)
    (hf : ∀ x y, NumL S.data.toList x → NumL T.data.toList y → y ≠ 0 → (∀ W v1 v2, Wh W v1 x → Wh W v2 y → Calls Tryz.prog g #[v1, v2] W (TwoP (Q x y) (R x y) W)) ∧ (dg 1000000000 (Q x y).natAbs).length ≤ 1000000 ∧ (R x y).natAbs < 10 ^ 200) :
    Calls Tryz.prog 64 #[.string S, .string T, .func (.func g) #[] #[]] w (DivA S T Q R w) := by
  have HT := Lib.hid ht
  have HFF := Lib.hid hf
  have HS2 : Hid (Strs ((w.alloc (.cells #[.func (.func g) #[] #[]] 82)).alloc (.cells #[.string S, .string T] 9)) (.slice (some ⟨w.heap.size + 1, 0, none⟩) 2 2) [S, T]) := by
    have := strs_two (w.alloc (.cells #[.func (.func g) #[] #[]] 82)) S T 9
    rw [show (w.alloc (.cells #[.func (.func g) #[] #[]] 82)).heap.size = w.heap.size + 1 by simp] at this
    exact this
  clear ht hf
  go_enter Tryz.func64, Tryz.ntmps64
  go_wp2_with (go_at_call 109; refine (with2_c 110 #[.pointer (some ⟨w.heap.size, 0, none⟩)] (enters_of Tryz.func110 (by kernel_rfl) rfl) _ [S, T] (dv2 Q R) _ HS2.out (by simp) ?hok ?hf).mono ?_)
  case hok =>
    intro zs r hz h
    obtain ⟨x, y, rfl, hx, hy⟩ := two_zs hz
    have e2 : dv2 Q R [x, y] = divOut (Q x y) (R x y) y := rfl
    rw [e2] at h
    rcases divOut_form (Q x y) (R x y) y with ⟨a, b, h'⟩ | ⟨k, h'⟩
    · rw [h'] at h; cases h; exact ⟨a, b, rfl⟩
    · rw [h'] at h; cases h
  case hf =>
    intro zs hz W lv hb hw
    obtain ⟨x, y, rfl, hx, hy⟩ := two_zs hz
    have hc : ((w.alloc (.cells #[.func (.func g) #[] #[]] 82)).alloc (.cells #[.string S, .string T] 9)).cell? ⟨w.heap.size, 0, none⟩ = some (.func (.func g) #[] #[]) := keep_cell ((Below.refl _ _).alloc (Nat.le_refl _) _) (new_cell w #[.func (.func g) #[] #[]] 82 0)
    exact divided1_c g eg lv ⟨w.heap.size, 0, none⟩ x y (Q x y) (R x y) W hw (HT.out.below (Below.trans (((Below.refl w.heap.size w).alloc (Nat.le_refl _) _).alloc (by simp) _) (hb.mono (by first | (simp; done) | (simp; omega) | omega)))) (keep_cell (by simpa using hb) hc) (HFF.out x y hx hy)
  rintro e w' h
  obtain ⟨a, b, k, rfl, hr⟩ := with_div (Q := Q) (R := R) h (((Below.refl w.heap.size w).alloc (Nat.le_refl _) _).alloc (by simp) _)
  have HR := Lib.hid hr
  clear h hr
  go_wp2_with fail
  go_region
  all_goals
    go_wp2
    refine bodyPost_ret (v := .tuple #[.string a, .string b, .int .i64 k]) (by simp [results, Tryz.results64, go_sem]) rfl ?_
    exact HR.out.more (((Below.refl _ w').alloc (Nat.le_refl _) _).drew)

theorem diva_form {S T : ByteArray} {Q R : Int → Int → Int} {w w' : World} {e : Ending} (h : DivA S T Q R w e w') : ∃ a b k, e = .returned (.tuple #[.string a, .string b, .int .i64 k]) := by
  rcases h.1 with ⟨x, y, _, _, rfl⟩ | ⟨_, rfl⟩
  · rcases divOut_form (Q x y) (R x y) y with ⟨a, b, h'⟩ | ⟨k, h'⟩
    · rw [h']; exact ⟨_, _, _, rfl⟩
    · rw [h']; exact ⟨_, _, _, rfl⟩
  · exact ⟨_, _, _, rfl⟩

theorem fdiv_small (x : Int) {y : Int} (hy : y ≠ 0) : (x.fdiv y).natAbs ≤ x.natAbs + 1 ∧ (x.fmod y).natAbs < y.natAbs := by
  have h1 : (x.tdiv y).natAbs ≤ x.natAbs := by rw [Int.natAbs_tdiv]; exact Nat.div_le_self _ _
  have h2 : (x.tmod y).natAbs < y.natAbs := by rw [Int.natAbs_tmod]; exact Nat.mod_lt _ (by omega)
  refine ⟨?_, ?_⟩
  · by_cases h0 : x.tmod y = 0
    · rw [(fdiv_same hy (.inl h0)).1]; omega
    · by_cases hs : (x.tmod y < 0 ↔ y < 0)
      · rw [(fdiv_same hy (.inr hs)).1]; omega
      · rw [(fdiv_diff hy h0 hs).1]; omega
  · rcases Int.lt_or_le 0 y with k | k
    · have a := Int.fmod_nonneg_of_pos x k
      have b := Int.fmod_lt_of_pos x k
      omega
    · have a := fmod_neg_bound x (show y < 0 by omega)
      omega

set_option maxRecDepth 100000 in
set_option maxHeartbeats 1000000 in
theorem numQuo_c (S T : ByteArray) (w : World) (ht : Tabs w) : Calls Tryz.prog 27 #[.string S, .string T] w (DivA S T (fun x y => x.tdiv y) (fun x y => x.tmod y) w) := by
  have HT := Lib.hid ht
  clear ht
  go_enter Tryz.func27, Tryz.ntmps27
  go_wp2_with (go_at_call 64; refine (divided_c S T 65 (enters_of Tryz.func65 (by kernel_rfl) rfl) (fun x y => x.tdiv y) (fun x y => x.tmod y) _ HT.out ?hf).mono ?_)
  case hf =>
    intro x y hx hy hy0
    refine ⟨fun W v1 v2 h1 h2 => quo_c v1 v2 x y W h1 h2 hy0 (Nat.le_trans (len23 hx.2) (by decide)) (Nat.le_trans (len23 hy.2) (by decide)), ?_, ?_⟩
    · rw [Int.natAbs_tdiv]; exact Nat.le_trans (len23 (Nat.lt_of_le_of_lt (Nat.div_le_self _ _) hx.2)) (by decide)
    · rw [Int.natAbs_tmod]; exact Nat.lt_of_le_of_lt (Nat.le_of_lt (Nat.mod_lt _ (by omega))) hy.2
  rintro e w' h
  obtain ⟨a, b, k, rfl⟩ := diva_form h
  have HR := Lib.hid h
  clear h
  go_wp2
  refine bodyPost_ret (v := .tuple #[.string a, .string b, .int .i64 k]) (by simp [results, Tryz.results27, go_sem]) rfl ?_
  exact HR.out

set_option maxRecDepth 100000 in
set_option maxHeartbeats 1000000 in
theorem numFloor_c (S T : ByteArray) (w : World) (ht : Tabs w) : Calls Tryz.prog 28 #[.string S, .string T] w (DivA S T (fun x y => x.fdiv y) (fun x y => x.fmod y) w) := by
  have HT := Lib.hid ht
  clear ht
  go_enter Tryz.func28, Tryz.ntmps28
  go_wp2_with (go_at_call 64; refine (divided_c S T 66 (enters_of Tryz.func66 (by kernel_rfl) rfl) (fun x y => x.fdiv y) (fun x y => x.fmod y) _ HT.out ?hf).mono ?_)
  case hf =>
    intro x y hx hy hy0
    have hs := fdiv_small x hy0
    refine ⟨fun W v1 v2 h1 h2 => floor_c v1 v2 x y W h1 h2 hy0 (Nat.le_trans (len23 hx.2) (by decide)) (Nat.le_trans (len23 hy.2) (by decide)), ?_, Nat.lt_trans hs.2 hy.2⟩
    exact Nat.le_trans (dg_len_small (by have := hs.1; have := hx.2; omega)) (by decide)
  rintro e w' h
  obtain ⟨a, b, k, rfl⟩ := diva_form h
  have HR := Lib.hid h
  clear h
  go_wp2
  refine bodyPost_ret (v := .tuple #[.string a, .string b, .int .i64 k]) (by simp [results, Tryz.results28, go_sem]) rfl ?_
  exact HR.out

end Go.Proofs.YtbjgpbdkofadiaaGreatDoor
