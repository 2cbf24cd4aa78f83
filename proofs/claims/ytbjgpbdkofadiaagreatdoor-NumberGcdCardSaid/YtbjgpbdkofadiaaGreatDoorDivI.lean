/- What holds in the region in which divisor works out the second factor, whatever has come up. -/
import Derived.Test.YtbjgpbdkofadiaaGreatDoorComb
import Derived.Test.YtbjgpbdkofadiaaGreatDoorWhole5
import Derived.Test.YtbjgpbdkofadiaaGreatDoorInv
namespace Go.Proofs.YtbjgpbdkofadiaaGreatDoor
set_option linter.unusedVariables false
set_option linter.unusedSimpArgs false
open Go.RowKit Go.Shelf Go.Proofs

/-- No whole number. -/
def Ni (v : Value) : Prop := ∀ kd z, v ≠ .int kd z
theorem ni_bool (b : Bool) : Ni (.bool b) := fun _ _ h => by cases h
theorem ni_slice (A : Option Addr) (n c : Nat) : Ni (.slice A n c) := fun _ _ h => by cases h

theorem box_set {w : World} {g : Nat} {cs : Array Value} {t : TypeId} {fz : Nat × Nat} (h : w.heap[g]? = some (.cells cs t fz)) (i : Nat) (v : Value) :
    (w.setCell ⟨g, i, none⟩ v).heap[g]? = some (.cells (cs.setIfInBounds i v) t fz) := by
  obtain ⟨hlt, h'⟩ := Array.getElem?_eq_some_iff.1 h
  show (w.heap.modify g _)[g]? = _
  rw [Array.getElem?_eq_getElem (by simpa using hlt), Array.getElem_modify_self, h']
  rfl
/-- Digits lie in no box of other things: a store into it leaves them. -/
theorem dg_store {w : World} {v : Value} {n g : Nat} {cs : Array Value} {t : TypeId} {fz : Nat × Nat} (h : Dg 1000000000 w v n) (hbox : w.heap[g]? = some (.cells cs t fz)) (hcs : ∀ (i : Nat) x, cs[i]? = some x → Ni x) (i : Nat) (u : Value) :
    Dg 1000000000 (w.setCell ⟨g, i, none⟩ u) v n := by
  by_cases h0 : n = 0
  · subst h0; exact dg_any h
  · obtain ⟨A, c, rfl, h1, h2, hr⟩ := h
    refine Dg.same ⟨A, c, rfl, h1, h2, hr⟩ fun k hk => Below.heap_setCell _ _ _ _ fun e => ?_
    have e' : k = g := e
    subst e'
    have hl : 0 < (dg 1000000000 n).length := List.length_pos_iff.2 fun e => h0 ((dg_eq_nil (by decide)).1 e)
    obtain ⟨a, rfl, hc⟩ := hr 0 hl
    rw [addr_zero] at hc
    have hb : a.block = k := by simpa [Value.ownBlock] using hk
    unfold World.cell? at hc
    rw [hb, hbox] at hc
    simp only [] at hc
    split at hc
    · cases hc
    · exact hcs _ _ hc _ _ rfl
/-- A box of two cells. -/
def Bx2 (w : World) (g : Nat) : Prop := ∃ t x0 x1, w.heap[g]? = some (.cells #[x0, x1] t (0, 0)) ∧ Ni x0 ∧ Ni x1
theorem Bx2.below {w w' : World} {g : Nat} (h : Bx2 w g) (hb : Below w.heap.size w w') : Bx2 w' g := by
  obtain ⟨t, x0, x1, h, h0, h1⟩ := h
  exact ⟨t, x0, x1, heap_below h hb, h0, h1⟩
theorem Bx2.lt {w : World} {g : Nat} (h : Bx2 w g) : g < w.heap.size := by
  obtain ⟨t, x0, x1, h, h0, h1⟩ := h
  exact (Array.getElem?_eq_some_iff.1 h).1
theorem Bx2.at {w : World} {g g' : Nat} (h : Bx2 w g) {w' : World} (hb : w'.heap[g]? = w.heap[g]?) : Bx2 w' g := by
  obtain ⟨t, x0, x1, h, h0, h1⟩ := h
  exact ⟨t, x0, x1, hb.trans h, h0, h1⟩
theorem Bx2.free {w : World} {g : Nat} (h : Bx2 w g) (i : Nat) : w.frozen? ⟨g, i, none⟩ = false := by
  obtain ⟨t, x0, x1, h, h0, h1⟩ := h
  exact free_of_heap h i
theorem Bx2.cells {w : World} {g : Nat} (h : Bx2 w g) : ∃ x0 x1, w.cell? ⟨g, 0, none⟩ = some x0 ∧ w.cell? ⟨g, 1, none⟩ = some x1 := by
  obtain ⟨t, x0, x1, h, h0, h1⟩ := h
  exact ⟨x0, x1, cell_of_heap h 0, cell_of_heap h 1⟩
theorem two_ni {x0 x1 : Value} (h0 : Ni x0) (h1 : Ni x1) : ∀ (i : Nat) x, (#[x0, x1] : Array Value)[i]? = some x → Ni x := by
  intro i x hi
  match i with
  | 0 => simp at hi; subst hi; exact h0
  | 1 => simp at hi; subst hi; exact h1
  | i + 2 => simp at hi
theorem two_store {w : World} {g : Nat} (h : Bx2 w g) {u v : Value} (hu : Ni u) (hv : Ni v) :
    ∃ F, (w.setCell ⟨g, 0, none⟩ u).setCell ⟨g, 1, none⟩ v = F ∧ F.cell? ⟨g, 0, none⟩ = some u ∧ F.cell? ⟨g, 1, none⟩ = some v ∧ Bx2 F g
      ∧ (∀ k w0, k ≤ g → Below k w0 w → Below k w0 F) ∧ (∀ p n, Dg 1000000000 w p n → Dg 1000000000 F p n) ∧ (∀ g', g' ≠ g → F.heap[g']? = w.heap[g']?) := by
  obtain ⟨t, x0, x1, h, h0, h1⟩ := h
  have b1 := box_set h 0 u
  have e1 : (#[x0, x1] : Array Value).setIfInBounds 0 u = #[u, x1] := by simp
  rw [e1] at b1
  have b2 := box_set b1 1 v
  have e2 : (#[u, x1] : Array Value).setIfInBounds 1 v = #[u, v] := by simp
  rw [e2] at b2
  refine ⟨_, rfl, cell_of_heap b2 0, cell_of_heap b2 1, ⟨t, u, v, b2, hu, hv⟩, fun k w0 hk hb => (hb.setCell hk _).setCell hk _, fun p n hd => ?_, fun g' hg => ?_⟩
  · exact dg_store (dg_store hd h (two_ni h0 h1) _ _) b1 (two_ni hu h1) _ _
  · rw [Below.heap_setCell _ _ _ _ hg, Below.heap_setCell _ _ _ _ hg]
theorem wh_store {w F : World} {v : Value} {z : Int} (h : Wh w v z) (hf : ∀ p n, Dg 1000000000 w p n → Dg 1000000000 F p n) : Wh F v z := by
  obtain ⟨p, e, hd⟩ := h
  exact ⟨p, e, hf _ _ hd⟩

theorem wh_form {w : World} {v : Value} {z : Int} (h : Wh w v z) : ∃ b A n c, v = .agg #[.bool b, .slice A n c] ∧ decide (z < 0) = b ∧ Dg 1000000000 w (.slice A n c) z.natAbs := by
  obtain ⟨p, rfl, hd⟩ := h
  obtain ⟨A, n, c, rfl⟩ := hd.form
  exact ⟨_, A, n, c, rfl, rfl, hd⟩
theorem tup_form {w : World} {t : Value} {y z : Int} (h : ∃ u v, t = .tuple #[u, v] ∧ Wh w u y ∧ Wh w v z) :
    ∃ b A n c b' A' n' c', t = .tuple #[.agg #[.bool b, .slice A n c], .agg #[.bool b', .slice A' n' c']] ∧ (decide (y < 0) = b ∧ Dg 1000000000 w (.slice A n c) y.natAbs) ∧ decide (z < 0) = b' ∧ Dg 1000000000 w (.slice A' n' c') z.natAbs := by
  obtain ⟨u, v, rfl, hu, hv⟩ := h
  obtain ⟨b, A, n, c, rfl, h1, h2⟩ := wh_form hu
  obtain ⟨b', A', n', c', rfl, h3, h4⟩ := wh_form hv
  exact ⟨_, _, _, _, _, _, _, _, rfl, ⟨h1, h2⟩, h3, h4⟩

/-- What each operation has left. -/
def Ph (F : World) (vG vX vA vB : Value) (zm zs zy zz : Int) (j : Nat) (w : World) (us : Nat → Value) : Prop :=
  match j with
  | 0 => us 59 = vG
  | 1 => us 60 = .agg #[.bool false, vG]
  | 2 => us 61 = vX
  | 3 => us 62 = vA
  | 4 => Wh w (us 63) zm
  | 5 => Wh w (us 64) (-zm)
  | 6 => Wh w (us 65) zs
  | 7 => us 66 = vB
  | 8 => ∃ u v, us 67 = .tuple #[u, v] ∧ Wh w u zy ∧ Wh w v zz
  | 9 => ∃ u v, us 58 = .tuple #[u, v] ∧ Wh w u zy ∧ Wh w v zz
  | 10 => Wh w (us 68) zy
  | 11 => Wh w (us 69) zz
  | 12 => ∃ g, us 9 = .pointer (some ⟨g, 0, none⟩) ∧ F.heap.size ≤ g ∧ Bx2 w g
  | 13 => ∃ g, us 10 = .pointer (some ⟨g, 0, none⟩) ∧ F.heap.size ≤ g ∧ Bx2 w g
  | _ => True
/-- The temporary of each. -/
def sl (j : Nat) : Nat := [59, 60, 61, 62, 63, 64, 65, 66, 67, 58, 68, 69, 9, 10].getD j 0
theorem sl_ne : ∀ i, i < 14 → ∀ j, j < 14 → j ≠ i → sl j ≠ sl i := by decide

section
variable {F : World} {vG vX vA vB : Value} {zm zs zy zz : Int}
theorem Ph.below {w w' : World} {us : Nat → Value} (hb : Below w.heap.size w w') : ∀ j, j < 14 → Ph F vG vX vA vB zm zs zy zz j w us → Ph F vG vX vA vB zm zs zy zz j w' us := by
  intro j hj h
  match j, hj with
  | 0, _ => exact h
  | 1, _ => exact h
  | 2, _ => exact h
  | 3, _ => exact h
  | 4, _ => exact Wh.below h hb
  | 5, _ => exact Wh.below h hb
  | 6, _ => exact Wh.below h hb
  | 7, _ => exact h
  | 8, _ => obtain ⟨u, v, e, h1, h2⟩ := h; exact ⟨u, v, e, h1.below hb, h2.below hb⟩
  | 9, _ => obtain ⟨u, v, e, h1, h2⟩ := h; exact ⟨u, v, e, h1.below hb, h2.below hb⟩
  | 10, _ => exact Wh.below h hb
  | 11, _ => exact Wh.below h hb
  | 12, _ => obtain ⟨g, e, h1, h2⟩ := h; exact ⟨g, e, h1, h2.below hb⟩
  | 13, _ => obtain ⟨g, e, h1, h2⟩ := h; exact ⟨g, e, h1, h2.below hb⟩
theorem Ph.store {w w' : World} {us : Nat → Value} (hf : ∀ p n, Dg 1000000000 w p n → Dg 1000000000 w' p n) (hbx : ∀ g, Bx2 w g → Bx2 w' g) : ∀ j, j < 14 → Ph F vG vX vA vB zm zs zy zz j w us → Ph F vG vX vA vB zm zs zy zz j w' us := by
  intro j hj h
  match j, hj with
  | 0, _ => exact h
  | 1, _ => exact h
  | 2, _ => exact h
  | 3, _ => exact h
  | 4, _ => exact wh_store h hf
  | 5, _ => exact wh_store h hf
  | 6, _ => exact wh_store h hf
  | 7, _ => exact h
  | 8, _ => obtain ⟨u, v, e, h1, h2⟩ := h; exact ⟨u, v, e, wh_store h1 hf, wh_store h2 hf⟩
  | 9, _ => obtain ⟨u, v, e, h1, h2⟩ := h; exact ⟨u, v, e, wh_store h1 hf, wh_store h2 hf⟩
  | 10, _ => exact wh_store h hf
  | 11, _ => exact wh_store h hf
  | 12, _ => obtain ⟨g, e, h1, h2⟩ := h; exact ⟨g, e, h1, hbx _ h2⟩
  | 13, _ => obtain ⟨g, e, h1, h2⟩ := h; exact ⟨g, e, h1, hbx _ h2⟩
theorem Ph.upd {w : World} {us : Nat → Value} (d : Nat) (v : Value) : ∀ j, j < 14 → sl j ≠ d → Ph F vG vX vA vB zm zs zy zz j w us → Ph F vG vX vA vB zm zs zy zz j w (upd us d v) := by
  intro j hj hne h
  match j, hj, hne with
  | 0, _, hne | 1, _, hne | 2, _, hne | 3, _, hne | 4, _, hne | 5, _, hne | 6, _, hne | 7, _, hne | 8, _, hne | 9, _, hne | 10, _, hne | 11, _, hne | 12, _, hne | 13, _, hne =>
    all_goals
      simp only [Ph, sl, List.getD_cons_zero, List.getD_cons_succ] at h hne ⊢
      rw [upd_ne us v hne]
      exact h

/-- What holds. -/
structure Iv (F : World) (vG vX vA vB : Value) (zm zs zy zz : Int) (l : Array Bool) (us : Nat → Value) (w : World) : Prop where
  below : Below F.heap.size F w
  ph : ∀ j, j < 14 → l.getD j false = true → Ph F vG vX vA vB zm zs zy zz j w us
  ne : l.getD 12 false = true → l.getD 13 false = true → us 9 ≠ us 10
  st : l.getD 14 false = true → l.getD 12 false = true ∧ ∃ g p, us 9 = .pointer (some ⟨g, 0, none⟩) ∧ w.cell? ⟨g, 0, none⟩ = some (.bool (decide (zy < 0))) ∧ w.cell? ⟨g, 1, none⟩ = some p ∧ Dg 1000000000 w p zy.natAbs

theorem Iv.val {l : Array Bool} {us : Nat → Value} {w w' : World} (h : Iv F vG vX vA vB zm zs zy zz l us w) (i : Nat) (hi : i < 14) (hl : l.getD i true = false) (hb : Below w.heap.size w w') (v : Value)
    (hv : Ph F vG vX vA vB zm zs zy zz i w' (upd us (sl i) v)) (hnew : i = 12 ∨ i = 13 → ∃ g, v = .pointer (some ⟨g, 0, none⟩) ∧ w.heap.size ≤ g) :
    Iv F vG vX vA vB zm zs zy zz (l.setIfInBounds i true) (upd us (sl i) v) w' where
  below := h.below.trans (hb.mono h.below.size)
  ph := fun j hj hlj => by
    by_cases e : j = i
    · subst e; exact hv
    · have hlj' := (listed_or hlj).resolve_left e
      exact Ph.upd _ _ j hj (sl_ne i hi j hj e) (Ph.below hb j hj (h.ph j hj hlj'))
  ne := fun h1 h2 => by
    by_cases e1 : i = 12
    · subst e1
      obtain ⟨g, hg, hgw⟩ := hnew (.inl rfl)
      have h3 := (listed_or h2).resolve_left (by decide)
      obtain ⟨g', hg', _, hb2⟩ := h.ph 13 (by decide) h3
      show upd us 9 v 9 ≠ upd us 9 v 10
      rw [upd_same, upd_ne _ _ (by decide), hg, hg']
      intro e
      cases e
      have := hb2.lt
      omega
    · by_cases e2 : i = 13
      · subst e2
        obtain ⟨g, hg, hgw⟩ := hnew (.inr rfl)
        have h3 := (listed_or h1).resolve_left (by decide)
        obtain ⟨g', hg', _, hb2⟩ := h.ph 12 (by decide) h3
        show upd us 10 v 9 ≠ upd us 10 v 10
        rw [upd_same, upd_ne _ _ (by decide), hg, hg']
        intro e
        cases e
        have := hb2.lt
        omega
      · rw [upd_ne us v (show 9 ≠ sl i from sl_ne i hi 12 (by decide) (Ne.symm e1)), upd_ne us v (show 10 ≠ sl i from sl_ne i hi 13 (by decide) (Ne.symm e2))]
        exact h.ne ((listed_or h1).resolve_left (Ne.symm e1)) ((listed_or h2).resolve_left (Ne.symm e2))
  st := fun h1 => by
    have h2 := (listed_or h1).resolve_left (by omega)
    obtain ⟨h3, g, p, e, c0, c1, hd⟩ := h.st h2
    have hi12 : i ≠ 12 := fun e => by subst e; exact not_listed hl h3
    refine ⟨?_, g, p, ?_, keep_cell hb c0, keep_cell hb c1, hd.below hb⟩
    · rw [getD_set_ne false hi12]; exact h3
    · rw [upd_ne us v (show 9 ≠ sl i from sl_ne i hi 12 (by decide) (Ne.symm hi12))]; exact e

theorem Iv.st9 {l : Array Bool} {us : Nat → Value} {w w' : World} {g : Nat} {p : Value} (h : Iv F vG vX vA vB zm zs zy zz l us w) (h12 : l.getD 12 false = true) (hg : us 9 = .pointer (some ⟨g, 0, none⟩)) (hgF : F.heap.size ≤ g)
    (c0 : w'.cell? ⟨g, 0, none⟩ = some (.bool (decide (zy < 0)))) (c1 : w'.cell? ⟨g, 1, none⟩ = some p) (hd : Dg 1000000000 w p zy.natAbs) (hbx : Bx2 w' g)
    (hbf : ∀ k w0, k ≤ g → Below k w0 w → Below k w0 w') (hdf : ∀ p n, Dg 1000000000 w p n → Dg 1000000000 w' p n) (hfar : ∀ g', g' ≠ g → w'.heap[g']? = w.heap[g']?) :
    Iv F vG vX vA vB zm zs zy zz (l.setIfInBounds 14 true) us w' where
  below := hbf _ _ hgF h.below
  ph := fun j hj hlj => Ph.store hdf (fun g' hb => by
    by_cases e : g' = g
    · subst e; exact hbx
    · exact hb.at (g' := g') (hfar _ e)) j hj (h.ph j hj ((listed_or hlj).resolve_left (by omega)))
  ne := fun h1 h2 => h.ne ((listed_or h1).resolve_left (by decide)) ((listed_or h2).resolve_left (by decide))
  st := fun _ => ⟨by rw [getD_set_ne false (by decide)]; exact h12, g, p, hg, c0, c1, hdf _ _ hd⟩

theorem Iv.st10 {l : Array Bool} {us : Nat → Value} {w w' : World} {g : Nat} (h : Iv F vG vX vA vB zm zs zy zz l us w) (h13 : l.getD 13 false = true) (hg : us 10 = .pointer (some ⟨g, 0, none⟩)) (hgF : F.heap.size ≤ g) (hbx : Bx2 w' g)
    (hbf : ∀ k w0, k ≤ g → Below k w0 w → Below k w0 w') (hdf : ∀ p n, Dg 1000000000 w p n → Dg 1000000000 w' p n) (hfar : ∀ g', g' ≠ g → w'.heap[g']? = w.heap[g']?) :
    Iv F vG vX vA vB zm zs zy zz (l.setIfInBounds 15 true) us w' where
  below := hbf _ _ hgF h.below
  ph := fun j hj hlj => Ph.store hdf (fun g' hb => by
    by_cases e : g' = g
    · subst e; exact hbx
    · exact hb.at (g' := g') (hfar _ e)) j hj (h.ph j hj ((listed_or hlj).resolve_left (by omega)))
  ne := fun h1 h2 => h.ne ((listed_or h1).resolve_left (by decide)) ((listed_or h2).resolve_left (by decide))
  st := fun h1 => by
    obtain ⟨h3, g', p, e, c0, c1, hd⟩ := h.st ((listed_or h1).resolve_left (by decide))
    have hne : g' ≠ g := fun eg => h.ne h3 h13 (by rw [e, hg, eg])
    have hh := hfar g' hne
    refine ⟨by rw [getD_set_ne false (by decide)]; exact h3, g', p, e, ?_, ?_, hdf _ _ hd⟩
    · rw [World.cell?_of_block (w := w) hh]; exact c0
    · rw [World.cell?_of_block (w := w) hh]; exact c1
end
end Go.Proofs.YtbjgpbdkofadiaaGreatDoor
