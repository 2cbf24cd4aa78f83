/- The greatest common divisor; sanity. -/
import Derived.RegionTactic
import Derived.Deep.CutRange
import Derived.Deep.DrawnRows
import Derived.Test.YtbjgpbdkofadiaaGreatDoorM5
import Derived.Test.YtbjgpbdkofadiaaGreatDoorM2
import Derived.Test.YtbjgpbdkofadiaaGreatDoorM3
import Derived.Test.YtbjgpbdkofadiaaGreatDoorM4
namespace Go.Proofs.YtbjgpbdkofadiaaGreatDoor
set_option linter.unusedVariables false
set_option linter.unusedSimpArgs false

section
variable {P : Program} {ops : Array Oper} {Q : Exit → Act → World → Prop}

/-- What operation i waits for. -/
def predsOf (ops : Array Oper) (i : Nat) : List Nat := match ops[i]? with
  | some o => (o.after.toList.filter (Region.binds .any)).map (·.on)
  | none => []
/-- Each operation waits for earlier ones alone. -/
def backward (ops : Array Oper) : Bool := (List.range ops.size).all fun i => (predsOf ops i).all fun j => decide (j < i)

theorem pred_mem {i : Nat} {o : Oper} (ho : ops[i]? = some o) {e : Edge} (he : e ∈ o.after) (hb : Region.binds .any e = true) : e.on ∈ predsOf ops i := by
  unfold predsOf
  rw [ho]
  exact List.mem_map.2 ⟨e, List.mem_filter.2 ⟨by simpa using he, hb⟩, rfl⟩

theorem ready_nil {l : Array Bool} (hb : backward ops = true) (hr : Region.ready .any ops l = []) : ∀ i, i < ops.size → l.getD i true = true := by
  intro i
  induction i using Nat.strongRecOn with
  | _ i ih =>
    intro hi
    cases hl : l.getD i true with
    | true => rfl
    | false =>
      exfalso
      have hm : i ∈ Region.ready .any ops l := by
        refine mem_ready.2 ⟨hl, ops[i], by rw [Array.getElem?_eq_getElem hi], fun e he hbd => ?_⟩
        have hp := pred_mem (Array.getElem?_eq_getElem hi) he hbd
        have hlt : e.on < i := by
          have h1 := List.all_eq_true.1 hb i (List.mem_range.2 hi)
          exact of_decide_eq_true (List.all_eq_true.1 h1 _ hp)
        have h2 := ih _ hlt (by omega)
        by_cases hs : e.on < l.size
        · simp [hs] at h2 ⊢; exact h2
        · exfalso
          have : i < l.size ∨ ¬ i < l.size := Nat.lt_or_ge i l.size |>.imp id Nat.not_lt.2
          rcases this with h | h
          · omega
          · simp [h] at hl
      rw [hr] at hm
      cases hm

/-- Step p i, p (i+1), .. -/
def AllFrom (p : Nat → Prop) : Nat → Nat → Prop
  | _, 0 => True
  | i, n + 1 => p i ∧ AllFrom p (i + 1) n
theorem AllFrom.get {p : Nat → Prop} : ∀ (n i : Nat), AllFrom p i n → ∀ j, i ≤ j → j < i + n → p j
  | 0, _, _, _, h1, h2 => by omega
  | n + 1, i, h, j, h1, h2 => by
    by_cases e : j = i
    · subst e; exact h.1
    · exact AllFrom.get n (i + 1) h.2 j (by omega) (by omega)

theorem count_set {l : Array Bool} {i : Nat} (h : l.getD i true = false) : (l.setIfInBounds i true).toList.count false + 1 = l.toList.count false := by
  have hi : i < l.size := by
    rcases Nat.lt_or_ge i l.size with h' | h'
    · exact h'
    · simp [Array.getElem?_eq_none h'] at h
  have hv : l.toList[i]'(by simpa using hi) = false := by simpa [hi] using h
  have h1 : 0 < l.toList.count false := List.count_pos_iff.2 (hv ▸ List.getElem_mem _)
  have h2 : (l.setIfInBounds i true).toList.count false = l.toList.count false - 1 := by
    rw [Array.toList_setIfInBounds, List.count_set (by simpa using hi), hv]
    rfl
  omega

theorem wpAny_inv (I : Array Bool → Act → World → Prop) (hb : backward ops = true)
    (hs : ∀ i, i < ops.size → ∀ l a w, I l a w → (∀ j, (predsOf ops i).contains j = true → l.getD j false = true) → l.getD i true = false → wpOp P ops Q i (I (l.setIfInBounds i true)) a w)
    (he : ∀ l a w, (∀ i, i < ops.size → l.getD i false = true) → I l a w → Q .normal a w) :
    ∀ (fuel : Nat) (l : Array Bool) (a : Act) (w : World), l.size = ops.size → l.toList.count false ≤ fuel → I l a w → wpAny P .any ops Q fuel l a w := by
  intro fuel
  have hall : ∀ (l : Array Bool), l.size = ops.size → Region.ready .any ops l = [] → ∀ i, i < ops.size → l.getD i false = true := by
    intro l hl hr i hi
    have := ready_nil hb hr i hi
    simp [hl, hi] at this ⊢
    exact this
  induction fuel with
  | zero =>
    intro l a w hl hc hI
    have hr : Region.ready .any ops l = [] := by
      cases hr : Region.ready .any ops l with
      | nil => rfl
      | cons i t =>
        exfalso
        have hm : i ∈ Region.ready .any ops l := by rw [hr]; exact List.mem_cons_self
        have := count_set (mem_ready.1 hm).1
        omega
    exact ⟨hr, he l a w (hall l hl hr) hI⟩
  | succ fuel ih =>
    intro l a w hl hc hI
    refine ⟨fun hr => he l a w (hall l hl hr) hI, fun i hi => ?_⟩
    obtain ⟨h0, o, ho, hp⟩ := mem_ready.1 hi
    have hlt : i < ops.size := (Array.getElem?_eq_some_iff.1 ho).1
    refine wpOp_mono (fun a' w' h' => ih _ a' w' (by simpa using hl) (by have := count_set h0; omega) h') (hs i hlt l a w hI (fun j hj => ?_) h0)
    have hj' : j ∈ predsOf ops i := by simpa using hj
    unfold predsOf at hj'
    rw [ho] at hj'
    obtain ⟨e, he1, rfl⟩ := List.mem_map.1 hj'
    obtain ⟨he2, he3⟩ := List.mem_filter.1 he1
    exact hp e (by simpa using he2) he3

/-- One operation's duty. -/
def OpStep (P : Program) (ops : Array Oper) (Q : Exit → Act → World → Prop) (I : Array Bool → Act → World → Prop) (i : Nat) : Prop :=
  ∀ l a w, I l a w → (∀ j, (predsOf ops i).contains j = true → l.getD j false = true) → l.getD i true = false → wpOp P ops Q i (I (l.setIfInBounds i true)) a w

/-- A region that draws its order: each operation keeps what holds. -/
theorem wp_region_inv {id : Nat} {a : Act} {w : World} (I : Array Bool → Act → World → Prop) (n : Nat) (hn : ops.size = n)
    (hm : P.follows .mixedOrders = true) (hb : backward ops = true)
    (h0 : I (Array.replicate n false) a w.drew)
    (he : ∀ l a w, (∀ i, i < n → l.getD i false = true) → I l a w → Q .normal a w)
    (hs : AllFrom (OpStep P ops Q I) 0 n) : (Code.region id ops true).wp P Q a w := by
  subst hn
  refine wp_region_any hm (wpAny_inv I hb (fun i hi => AllFrom.get _ _ hs i (Nat.zero_le _) (by omega)) he _ _ _ _ (by simp) ?_ h0)
  refine Nat.le_trans List.count_le_length ?_
  simp

/-- An operation's duty, step by step. -/
theorem opStep {I : Array Bool → Act → World → Prop} {i : Nat} {o : Oper} (ho : ops[i]? = some o)
    (h : ∀ l a w, I l a w → (∀ j, (predsOf ops i).contains j = true → l.getD j false = true) → l.getD i true = false →
      ∀ K : Act → World → Prop, (∀ a w, I (l.setIfInBounds i true) a w → K a w) → if Region.wanted o (yielded ops a.tmps) = true then Oper.wp P o a w K Q else K (a.put o.dst undef) w) : OpStep P ops Q I i :=
  fun l a w hI hp hl => wpOp_step ho (h l a w hI hp hl)

/-- The temporaries of a region, by their numbers. -/
def At (a0 : Act) (ds : List Nat) (us : Nat → Value) : Act := { a0 with tmps := ds.foldl (fun t d => t.setIfInBounds d (us d)) a0.tmps }
/-- One of them turned. -/
def upd (us : Nat → Value) (d : Nat) (v : Value) : Nat → Value := fun t => if t = d then v else us t
theorem upd_same (us : Nat → Value) (d : Nat) (v : Value) : upd us d v d = v := if_pos rfl
theorem upd_ne (us : Nat → Value) {d t : Nat} (v : Value) (h : t ≠ d) : upd us d v t = us t := if_neg h
theorem at_self (a0 : Act) : ∀ ds : List Nat, At a0 ds (fun t => a0.tmps.getD t undef) = a0
  | [] => rfl
  | d :: ds => by
    have h : a0.tmps.setIfInBounds d (a0.tmps.getD d undef) = a0.tmps := by
      by_cases hd : d < a0.tmps.size
      · refine Array.ext (by simp) fun i h1 h2 => ?_
        by_cases hi : d = i
        · subst hi; simp [h2]
        · rw [Array.getElem_setIfInBounds_ne h2 hi]
      · rw [Array.setIfInBounds_eq_of_size_le (by omega)]
    have ih := at_self a0 ds
    unfold At at ih ⊢
    rw [List.foldl_cons, h]
    exact ih
/-- The same, the temporaries by their numbers. -/
theorem wp_region_at {id : Nat} {a0 : Act} {w : World} (ds : List Nat) (J : Array Bool → (Nat → Value) → World → Prop) (n : Nat) (hn : ops.size = n)
    (hm : P.follows .mixedOrders = true) (hb : backward ops = true)
    (h0 : ∀ us, J (Array.replicate n false) us w.drew)
    (he : ∀ l us w, (∀ i, i < n → l.getD i false = true) → J l us w → Q .normal (At a0 ds us) w)
    (hs : AllFrom (OpStep P ops Q (fun l a w => ∃ us, a = At a0 ds us ∧ J l us w)) 0 n) : (Code.region id ops true).wp P Q a0 w :=
  wp_region_inv (fun l a w => ∃ us, a = At a0 ds us ∧ J l us w) n hn hm hb ⟨_, (at_self a0 ds).symm, h0 _⟩ (fun l a w hl ⟨us, e, hJ⟩ => e ▸ he l us w hl hJ) hs
/-- A goal that nothing looks into. -/
structure Duty (p : Prop) : Prop where
  out : p
def nthOp : List Oper → Nat → Option Oper
  | [], _ => none
  | o :: _, 0 => some o
  | _ :: t, i + 1 => nthOp t i
theorem nthOp_eq : ∀ (l : List Oper) (i : Nat), nthOp l i = l[i]?
  | [], _ => by simp [nthOp]
  | o :: _, 0 => by simp [nthOp]
  | _ :: t, i + 1 => by simp [nthOp, nthOp_eq t i]
theorem opAt {J : Array Bool → (Nat → Value) → World → Prop} {a0 : Act} {ds : List Nat} {i : Nat} {o : Oper} (ho : nthOp ops.toList i = some o)
    (h : ∀ l us w, J l us w → (∀ j, (predsOf ops i).contains j = true → l.getD j false = true) → l.getD i true = false →
      ∀ K : Act → World → Prop, (∀ us w, J (l.setIfInBounds i true) us w → K (At a0 ds us) w) → Duty (if Region.wanted o (yielded ops (At a0 ds us).tmps) = true then Oper.wp P o (At a0 ds us) w K Q else K ((At a0 ds us).put o.dst undef) w)) :
    OpStep P ops Q (fun l a w => ∃ us, a = At a0 ds us ∧ J l us w) i :=
  opStep (by rw [← ho, nthOp_eq, Array.getElem?_toList]) fun l a w ⟨us, e, hJ⟩ hp hl K hK => by subst e; exact (h l us w hJ hp hl K fun us w hJ => hK _ _ ⟨us, rfl, hJ⟩).out
theorem upd_self {us : Nat → Value} {d : Nat} {v : Value} (h : us d = v) : upd us d v = us := by
  funext t
  by_cases e : t = d
  · subst e; rw [upd_same, h]
  · rw [upd_ne us v e]
/-- What has been listed behind one more. -/
theorem listed_or {l : Array Bool} {i j : Nat} (h : (l.setIfInBounds i true).getD j false = true) : j = i ∨ l.getD j false = true := by
  by_cases e : j = i
  · exact .inl e
  · rw [getD_set_ne false (Ne.symm e)] at h; exact .inr h
theorem none_listed {n j : Nat} (h : (Array.replicate n false).getD j false = true) : False := by
  by_cases hj : j < n
  · simp [hj] at h
  · simp [hj] at h
theorem not_listed {l : Array Bool} {j : Nat} (h : l.getD j true = false) : ¬ l.getD j false = true := by
  intro h2
  by_cases hj : j < l.size
  · simp [hj] at h h2; rw [h] at h2; cases h2
  · simp [hj] at h
end
end Go.Proofs.YtbjgpbdkofadiaaGreatDoor

namespace Go.Proofs.YtbjgpbdkofadiaaGreatDoor
set_option linter.unusedVariables false
set_option linter.unusedSimpArgs false
open Go.RowKit Go.Shelf Go.Proofs

/-- No whole number. -/
def Ni (v : Value) : Prop := ∀ kd z, v ≠ .int kd z
theorem ni_bool (b : Bool) : Ni (.bool b) := fun _ _ h => by cases h
theorem ni_slice (A : Option Addr) (n c : Nat) : Ni (.slice A n c) := fun _ _ h => by cases h

theorem box_set {w : World} {g : Nat} {cs : Array Value} {t : TypeId} {fz : Nat × Nat} (h : w.heap[g]? = some (.cells cs t fz)) (i : Nat) (v : Value) :
    (w.setCell ⟨g, i, none⟩ v).heap[g]? = some (.cells (cs.setIfInBounds i v) t fz) := by
  obtain ⟨hlt, h'⟩ := Array.getElem?_eq_some_iff.1 h
  show (w.heap.modify g _)[g]? = _
  rw [Array.getElem?_eq_getElem (by simpa using hlt), Array.getElem_modify_self, h']
  rfl
/-- Digits lie in no box of other things: a store into it leaves them. -/
theorem dg_store {w : World} {v : Value} {n g : Nat} {cs : Array Value} {t : TypeId} {fz : Nat × Nat} (h : Dg 1000000000 w v n) (hbox : w.heap[g]? = some (.cells cs t fz)) (hcs : ∀ (i : Nat) x, cs[i]? = some x → Ni x) (i : Nat) (u : Value) :
    Dg 1000000000 (w.setCell ⟨g, i, none⟩ u) v n := by
  by_cases h0 : n = 0
  · subst h0; exact dg_any h
  · obtain ⟨A, c, rfl, h1, h2, hr⟩ := h
    refine Dg.same ⟨A, c, rfl, h1, h2, hr⟩ fun k hk => Below.heap_setCell _ _ _ _ fun e => ?_
    have e' : k = g := e
    subst e'
    have hl : 0 < (dg 1000000000 n).length := List.length_pos_iff.2 fun e => h0 ((dg_eq_nil (by decide)).1 e)
    obtain ⟨a, rfl, hc⟩ := hr 0 hl
    rw [addr_zero] at hc
    have hb : a.block = k := by simpa [Value.ownBlock] using hk
    unfold World.cell? at hc
    rw [hb, hbox] at hc
    simp only [] at hc
    split at hc
    · cases hc
    · exact hcs _ _ hc _ _ rfl
/-- A box of two cells. -/
def Bx2 (w : World) (g : Nat) : Prop := ∃ t x0 x1, w.heap[g]? = some (.cells #[x0, x1] t (0, 0)) ∧ Ni x0 ∧ Ni x1
theorem Bx2.below {w w' : World} {g : Nat} (h : Bx2 w g) (hb : Below w.heap.size w w') : Bx2 w' g := by
  obtain ⟨t, x0, x1, h, h0, h1⟩ := h
  exact ⟨t, x0, x1, heap_below h hb, h0, h1⟩
theorem Bx2.lt {w : World} {g : Nat} (h : Bx2 w g) : g < w.heap.size := by
  obtain ⟨t, x0, x1, h, h0, h1⟩ := h
  exact (Array.getElem?_eq_some_iff.1 h).1
theorem Bx2.at {w : World} {g g' : Nat} (h : Bx2 w g) {w' : World} (hb : w'.heap[g]? = w.heap[g]?) : Bx2 w' g := by
  obtain ⟨t, x0, x1, h, h0, h1⟩ := h
  exact ⟨t, x0, x1, hb.trans h, h0, h1⟩
theorem Bx2.free {w : World} {g : Nat} (h : Bx2 w g) (i : Nat) : w.frozen? ⟨g, i, none⟩ = false := by
  obtain ⟨t, x0, x1, h, h0, h1⟩ := h
  exact free_of_heap h i
theorem Bx2.cells {w : World} {g : Nat} (h : Bx2 w g) : ∃ x0 x1, w.cell? ⟨g, 0, none⟩ = some x0 ∧ w.cell? ⟨g, 1, none⟩ = some x1 := by
  obtain ⟨t, x0, x1, h, h0, h1⟩ := h
  exact ⟨x0, x1, cell_of_heap h 0, cell_of_heap h 1⟩
theorem two_ni {x0 x1 : Value} (h0 : Ni x0) (h1 : Ni x1) : ∀ (i : Nat) x, (#[x0, x1] : Array Value)[i]? = some x → Ni x := by
  intro i x hi
  match i with
  | 0 => simp at hi; subst hi; exact h0
  | 1 => simp at hi; subst hi; exact h1
  | i + 2 => simp at hi
theorem two_store {w : World} {g : Nat} (h : Bx2 w g) {u v : Value} (hu : Ni u) (hv : Ni v) :
    ∃ F, (w.setCell ⟨g, 0, none⟩ u).setCell ⟨g, 1, none⟩ v = F ∧ F.cell? ⟨g, 0, none⟩ = some u ∧ F.cell? ⟨g, 1, none⟩ = some v ∧ Bx2 F g
      ∧ (∀ k w0, k ≤ g → Below k w0 w → Below k w0 F) ∧ (∀ p n, Dg 1000000000 w p n → Dg 1000000000 F p n) ∧ (∀ g', g' ≠ g → F.heap[g']? = w.heap[g']?) := by
  obtain ⟨t, x0, x1, h, h0, h1⟩ := h
  have b1 := box_set h 0 u
  have e1 : (#[x0, x1] : Array Value).setIfInBounds 0 u = #[u, x1] := by simp
  rw [e1] at b1
  have b2 := box_set b1 1 v
  have e2 : (#[u, x1] : Array Value).setIfInBounds 1 v = #[u, v] := by simp
  rw [e2] at b2
  refine ⟨_, rfl, cell_of_heap b2 0, cell_of_heap b2 1, ⟨t, u, v, b2, hu, hv⟩, fun k w0 hk hb => (hb.setCell hk _).setCell hk _, fun p n hd => ?_, fun g' hg => ?_⟩
  · exact dg_store (dg_store hd h (two_ni h0 h1) _ _) b1 (two_ni hu h1) _ _
  · rw [Below.heap_setCell _ _ _ _ hg, Below.heap_setCell _ _ _ _ hg]
theorem wh_store {w F : World} {v : Value} {z : Int} (h : Wh w v z) (hf : ∀ p n, Dg 1000000000 w p n → Dg 1000000000 F p n) : Wh F v z := by
  obtain ⟨p, e, hd⟩ := h
  exact ⟨p, e, hf _ _ hd⟩

theorem wh_form {w : World} {v : Value} {z : Int} (h : Wh w v z) : ∃ b A n c, v = .agg #[.bool b, .slice A n c] ∧ decide (z < 0) = b ∧ Dg 1000000000 w (.slice A n c) z.natAbs := by
  obtain ⟨p, rfl, hd⟩ := h
  obtain ⟨A, n, c, rfl⟩ := hd.form
  exact ⟨_, A, n, c, rfl, rfl, hd⟩
theorem tup_form {w : World} {t : Value} {y z : Int} (h : ∃ u v, t = .tuple #[u, v] ∧ Wh w u y ∧ Wh w v z) :
    ∃ b A n c b' A' n' c', t = .tuple #[.agg #[.bool b, .slice A n c], .agg #[.bool b', .slice A' n' c']] ∧ (decide (y < 0) = b ∧ Dg 1000000000 w (.slice A n c) y.natAbs) ∧ decide (z < 0) = b' ∧ Dg 1000000000 w (.slice A' n' c') z.natAbs := by
  obtain ⟨u, v, rfl, hu, hv⟩ := h
  obtain ⟨b, A, n, c, rfl, h1, h2⟩ := wh_form hu
  obtain ⟨b', A', n', c', rfl, h3, h4⟩ := wh_form hv
  exact ⟨_, _, _, _, _, _, _, _, rfl, ⟨h1, h2⟩, h3, h4⟩

/-- What each operation has left. -/
def Ph (F : World) (vG vX vA vB : Value) (zm zs zy zz : Int) (j : Nat) (w : World) (us : Nat → Value) : Prop :=
  match j with
  | 0 => us 59 = vG
  | 1 => us 60 = .agg #[.bool false, vG]
  | 2 => us 61 = vX
  | 3 => us 62 = vA
  | 4 => Wh w (us 63) zm
  | 5 => Wh w (us 64) (-zm)
  | 6 => Wh w (us 65) zs
  | 7 => us 66 = vB
  | 8 => ∃ u v, us 67 = .tuple #[u, v] ∧ Wh w u zy ∧ Wh w v zz
  | 9 => ∃ u v, us 58 = .tuple #[u, v] ∧ Wh w u zy ∧ Wh w v zz
  | 10 => Wh w (us 68) zy
  | 11 => Wh w (us 69) zz
  | 12 => ∃ g, us 9 = .pointer (some ⟨g, 0, none⟩) ∧ F.heap.size ≤ g ∧ Bx2 w g
  | 13 => ∃ g, us 10 = .pointer (some ⟨g, 0, none⟩) ∧ F.heap.size ≤ g ∧ Bx2 w g
  | _ => True
/-- The temporary of each. -/
def sl (j : Nat) : Nat := [59, 60, 61, 62, 63, 64, 65, 66, 67, 58, 68, 69, 9, 10].getD j 0
theorem sl_ne : ∀ i, i < 14 → ∀ j, j < 14 → j ≠ i → sl j ≠ sl i := by decide

section
variable {F : World} {vG vX vA vB : Value} {zm zs zy zz : Int}
theorem Ph.below {w w' : World} {us : Nat → Value} (hb : Below w.heap.size w w') : ∀ j, j < 14 → Ph F vG vX vA vB zm zs zy zz j w us → Ph F vG vX vA vB zm zs zy zz j w' us := by
  intro j hj h
  match j, hj with
  | 0, _ => exact h
  | 1, _ => exact h
  | 2, _ => exact h
  | 3, _ => exact h
  | 4, _ => exact Wh.below h hb
  | 5, _ => exact Wh.below h hb
  | 6, _ => exact Wh.below h hb
  | 7, _ => exact h
  | 8, _ => obtain ⟨u, v, e, h1, h2⟩ := h; exact ⟨u, v, e, h1.below hb, h2.below hb⟩
  | 9, _ => obtain ⟨u, v, e, h1, h2⟩ := h; exact ⟨u, v, e, h1.below hb, h2.below hb⟩
  | 10, _ => exact Wh.below h hb
  | 11, _ => exact Wh.below h hb
  | 12, _ => obtain ⟨g, e, h1, h2⟩ := h; exact ⟨g, e, h1, h2.below hb⟩
  | 13, _ => obtain ⟨g, e, h1, h2⟩ := h; exact ⟨g, e, h1, h2.below hb⟩
theorem Ph.store {w w' : World} {us : Nat → Value} (hf : ∀ p n, Dg 1000000000 w p n → Dg 1000000000 w' p n) (hbx : ∀ g, Bx2 w g → Bx2 w' g) : ∀ j, j < 14 → Ph F vG vX vA vB zm zs zy zz j w us → Ph F vG vX vA vB zm zs zy zz j w' us := by
  intro j hj h
  match j, hj with
  | 0, _ => exact h
  | 1, _ => exact h
  | 2, _ => exact h
  | 3, _ => exact h
  | 4, _ => exact wh_store h hf
  | 5, _ => exact wh_store h hf
  | 6, _ => exact wh_store h hf
  | 7, _ => exact h
  | 8, _ => obtain ⟨u, v, e, h1, h2⟩ := h; exact ⟨u, v, e, wh_store h1 hf, wh_store h2 hf⟩
  | 9, _ => obtain ⟨u, v, e, h1, h2⟩ := h; exact ⟨u, v, e, wh_store h1 hf, wh_store h2 hf⟩
  | 10, _ => exact wh_store h hf
  | 11, _ => exact wh_store h hf
  | 12, _ => obtain ⟨g, e, h1, h2⟩ := h; exact ⟨g, e, h1, hbx _ h2⟩
  | 13, _ => obtain ⟨g, e, h1, h2⟩ := h; exact ⟨g, e, h1, hbx _ h2⟩
theorem Ph.upd {w : World} {us : Nat → Value} (d : Nat) (v : Value) : ∀ j, j < 14 → sl j ≠ d → Ph F vG vX vA vB zm zs zy zz j w us → Ph F vG vX vA vB zm zs zy zz j w (upd us d v) := by
  intro j hj hne h
  match j, hj, hne with
  | 0, _, hne | 1, _, hne | 2, _, hne | 3, _, hne | 4, _, hne | 5, _, hne | 6, _, hne | 7, _, hne | 8, _, hne | 9, _, hne | 10, _, hne | 11, _, hne | 12, _, hne | 13, _, hne =>
    all_goals
      simp only [Ph, sl, List.getD_cons_zero, List.getD_cons_succ] at h hne ⊢
      rw [upd_ne us v hne]
      exact h

/-- What holds. -/
structure Iv (F : World) (vG vX vA vB : Value) (zm zs zy zz : Int) (l : Array Bool) (us : Nat → Value) (w : World) : Prop where
  below : Below F.heap.size F w
  ph : ∀ j, j < 14 → l.getD j false = true → Ph F vG vX vA vB zm zs zy zz j w us
  ne : l.getD 12 false = true → l.getD 13 false = true → us 9 ≠ us 10
  st : l.getD 14 false = true → l.getD 12 false = true ∧ ∃ g p, us 9 = .pointer (some ⟨g, 0, none⟩) ∧ w.cell? ⟨g, 0, none⟩ = some (.bool (decide (zy < 0))) ∧ w.cell? ⟨g, 1, none⟩ = some p ∧ Dg 1000000000 w p zy.natAbs

theorem Iv.val {l : Array Bool} {us : Nat → Value} {w w' : World} (h : Iv F vG vX vA vB zm zs zy zz l us w) (i : Nat) (hi : i < 14) (hl : l.getD i true = false) (hb : Below w.heap.size w w') (v : Value)
    (hv : Ph F vG vX vA vB zm zs zy zz i w' (upd us (sl i) v)) (hnew : i = 12 ∨ i = 13 → ∃ g, v = .pointer (some ⟨g, 0, none⟩) ∧ w.heap.size ≤ g) :
    Iv F vG vX vA vB zm zs zy zz (l.setIfInBounds i true) (upd us (sl i) v) w' where
  below := h.below.trans (hb.mono h.below.size)
  ph := fun j hj hlj => by
    by_cases e : j = i
    · subst e; exact hv
    · have hlj' := (listed_or hlj).resolve_left e
      exact Ph.upd _ _ j hj (sl_ne i hi j hj e) (Ph.below hb j hj (h.ph j hj hlj'))
  ne := fun h1 h2 => by
    by_cases e1 : i = 12
    · subst e1
      obtain ⟨g, hg, hgw⟩ := hnew (.inl rfl)
      have h3 := (listed_or h2).resolve_left (by decide)
      obtain ⟨g', hg', _, hb2⟩ := h.ph 13 (by decide) h3
      show upd us 9 v 9 ≠ upd us 9 v 10
      rw [upd_same, upd_ne _ _ (by decide), hg, hg']
      intro e
      cases e
      have := hb2.lt
      omega
    · by_cases e2 : i = 13
      · subst e2
        obtain ⟨g, hg, hgw⟩ := hnew (.inr rfl)
        have h3 := (listed_or h1).resolve_left (by decide)
        obtain ⟨g', hg', _, hb2⟩ := h.ph 12 (by decide) h3
        show upd us 10 v 9 ≠ upd us 10 v 10
        rw [upd_same, upd_ne _ _ (by decide), hg, hg']
        intro e
        cases e
        have := hb2.lt
        omega
      · rw [upd_ne us v (show 9 ≠ sl i from sl_ne i hi 12 (by decide) (Ne.symm e1)), upd_ne us v (show 10 ≠ sl i from sl_ne i hi 13 (by decide) (Ne.symm e2))]
        exact h.ne ((listed_or h1).resolve_left (Ne.symm e1)) ((listed_or h2).resolve_left (Ne.symm e2))
  st := fun h1 => by
    have h2 := (listed_or h1).resolve_left (by omega)
    obtain ⟨h3, g, p, e, c0, c1, hd⟩ := h.st h2
    have hi12 : i ≠ 12 := fun e => by subst e; exact not_listed hl h3
    refine ⟨?_, g, p, ?_, keep_cell hb c0, keep_cell hb c1, hd.below hb⟩
    · rw [getD_set_ne false hi12]; exact h3
    · rw [upd_ne us v (show 9 ≠ sl i from sl_ne i hi 12 (by decide) (Ne.symm hi12))]; exact e

theorem Iv.st9 {l : Array Bool} {us : Nat → Value} {w w' : World} {g : Nat} {p : Value} (h : Iv F vG vX vA vB zm zs zy zz l us w) (h12 : l.getD 12 false = true) (hg : us 9 = .pointer (some ⟨g, 0, none⟩)) (hgF : F.heap.size ≤ g)
    (c0 : w'.cell? ⟨g, 0, none⟩ = some (.bool (decide (zy < 0)))) (c1 : w'.cell? ⟨g, 1, none⟩ = some p) (hd : Dg 1000000000 w p zy.natAbs) (hbx : Bx2 w' g)
    (hbf : ∀ k w0, k ≤ g → Below k w0 w → Below k w0 w') (hdf : ∀ p n, Dg 1000000000 w p n → Dg 1000000000 w' p n) (hfar : ∀ g', g' ≠ g → w'.heap[g']? = w.heap[g']?) :
    Iv F vG vX vA vB zm zs zy zz (l.setIfInBounds 14 true) us w' where
  below := hbf _ _ hgF h.below
  ph := fun j hj hlj => Ph.store hdf (fun g' hb => by
    by_cases e : g' = g
    · subst e; exact hbx
    · exact hb.at (g' := g') (hfar _ e)) j hj (h.ph j hj ((listed_or hlj).resolve_left (by omega)))
  ne := fun h1 h2 => h.ne ((listed_or h1).resolve_left (by decide)) ((listed_or h2).resolve_left (by decide))
  st := fun _ => ⟨by rw [getD_set_ne false (by decide)]; exact h12, g, p, hg, c0, c1, hdf _ _ hd⟩

theorem Iv.st10 {l : Array Bool} {us : Nat → Value} {w w' : World} {g : Nat} (h : Iv F vG vX vA vB zm zs zy zz l us w) (h13 : l.getD 13 false = true) (hg : us 10 = .pointer (some ⟨g, 0, none⟩)) (hgF : F.heap.size ≤ g) (hbx : Bx2 w' g)
    (hbf : ∀ k w0, k ≤ g → Below k w0 w → Below k w0 w') (hdf : ∀ p n, Dg 1000000000 w p n → Dg 1000000000 w' p n) (hfar : ∀ g', g' ≠ g → w'.heap[g']? = w.heap[g']?) :
    Iv F vG vX vA vB zm zs zy zz (l.setIfInBounds 15 true) us w' where
  below := hbf _ _ hgF h.below
  ph := fun j hj hlj => Ph.store hdf (fun g' hb => by
    by_cases e : g' = g
    · subst e; exact hbx
    · exact hb.at (g' := g') (hfar _ e)) j hj (h.ph j hj ((listed_or hlj).resolve_left (by omega)))
  ne := fun h1 h2 => h.ne ((listed_or h1).resolve_left (by decide)) ((listed_or h2).resolve_left (by decide))
  st := fun h1 => by
    obtain ⟨h3, g', p, e, c0, c1, hd⟩ := h.st ((listed_or h1).resolve_left (by decide))
    have hne : g' ≠ g := fun eg => h.ne h3 h13 (by rw [e, hg, eg])
    have hh := hfar g' hne
    refine ⟨by rw [getD_set_ne false (by decide)]; exact h3, g', p, e, ?_, ?_, hdf _ _ hd⟩
    · rw [World.cell?_of_block (w := w) hh]; exact c0
    · rw [World.cell?_of_block (w := w) hh]; exact c1
end
end Go.Proofs.YtbjgpbdkofadiaaGreatDoor

namespace Go.Proofs.YtbjgpbdkofadiaaGreatDoor
set_option linter.unusedVariables false
set_option linter.unusedSimpArgs false
open Go.RowKit Go.Shelf Go.Proofs
attribute [local go_sem] max2_int min2_int max_two min_two

/-- What divisor returns. -/
def DivP (x y : Int) (w : World) (e : Ending) (w' : World) : Prop := ∃ b1 b2 b3 p1 p2 p3 G X Y, e = .returned (.agg #[.bool b1, p1, .bool b2, p2, .bool b3, p3]) ∧ Wh w' (.agg #[.bool b1, p1]) G ∧ Wh w' (.agg #[.bool b2, p2]) X ∧ Wh w' (.agg #[.bool b3, p3]) Y ∧ GcdP x y G X Y ∧ G.natAbs < 10 ^ 200 ∧ X.natAbs < 10 ^ 200 ∧ Y.natAbs < 10 ^ 200 ∧ Below w.heap.size w w'

theorem flip_sign (x x1 : Int) (b1 bx : Bool) (h1 : decide (x1 < 0) = b1) (h2 : decide (x < 0) = bx) : ((!b1 == bx) && decide (0 < x1.natAbs)) = decide ((if x < 0 then -x1 else x1) < 0) := by
  subst h1 h2
  by_cases h : x < 0
  · rw [if_pos h, decide_eq_true h]
    rcases Int.lt_trichotomy x1 0 with k | k | k
    · rw [decide_eq_true k, decide_eq_false (by omega : ¬ -x1 < 0)]; rfl
    · subst k; rfl
    · rw [decide_eq_false (by omega : ¬ x1 < 0), decide_eq_true (by omega : -x1 < 0), decide_eq_true (by omega : 0 < x1.natAbs)]; rfl
  · rw [if_neg h, decide_eq_false h]
    rcases Int.lt_trichotomy x1 0 with k | k | k
    · rw [decide_eq_true k, decide_eq_true (by omega : 0 < x1.natAbs)]; rfl
    · subst k; rfl
    · rw [decide_eq_false (by omega : ¬ x1 < 0)]; rfl

theorem flip_abs (x x1 : Int) : (if x < 0 then -x1 else x1).natAbs = x1.natAbs := by
  split
  · rw [Int.natAbs_neg]
  · rfl

theorem flip_sum {x y x1 s : Int} {g : Nat} (h : x1 * (x.natAbs : Int) + s * (y.natAbs : Int) = (g : Int)) : ∃ s', (if x < 0 then -x1 else x1) * x + s' * y = (g : Int) := by
  have e1 : (if x < 0 then -x1 else x1) * x = x1 * (x.natAbs : Int) := by
    by_cases k : x < 0
    · rw [if_pos k, show (x.natAbs : Int) = -x by omega]; grind
    · rw [if_neg k, show (x.natAbs : Int) = x by omega]
  by_cases k : y < 0
  · exact ⟨-s, by rw [e1, ← h, show (y.natAbs : Int) = -y by omega]; grind⟩
  · exact ⟨s, by rw [e1, ← h, show (y.natAbs : Int) = y by omega]⟩

theorem len_sq {a b c : Nat} (ha : a < 10 ^ 200) (hb : b < 10 ^ 200) (hc : c < 10 ^ 200) : (dg 1000000000 (a * b + c)).length ≤ 1000000 := by
  have h1 : a * b + c ≤ (a + 1) * (b + 10 ^ 200) := by
    rw [Nat.add_mul, Nat.mul_add]; omega
  refine Nat.le_trans (dg_length_mono (by decide) h1) ?_
  refine Nat.le_trans ((dg_length_le (by decide) _ (30 + 30)).2 ?_) (by decide)
  rw [Nat.pow_add]
  have k1 : a + 1 < 1000000000 ^ 30 := by
    have : (10 : Nat) ^ 201 ≤ 1000000000 ^ 30 := by decide
    omega
  have k2 : b + 10 ^ 200 < 1000000000 ^ 30 := by
    have : (10 : Nat) ^ 201 ≤ 1000000000 ^ 30 := by decide
    omega
  exact Nat.mul_lt_mul'' k1 k2

theorem alloc_cells {w w' : World} (h : Below w.heap.size w w') : ∀ (o : Obj) (a : Addr), a.block < w.heap.size → (w'.alloc o).cell? a = w.cell? a := fun o a ha => by
  have h2 := (h.trans ((Below.refl w.heap.size w').alloc h.size o))
  exact h2.cell ha
theorem alloc_free {w w' : World} (h : Below w.heap.size w w') : ∀ (o : Obj) (a : Addr), a.block < w.heap.size → (w'.alloc o).frozen? a = w.frozen? a := fun o a ha => by
  have h2 := (h.trans ((Below.refl w.heap.size w').alloc h.size o))
  exact h2.frozen ha
theorem set_sameS' {w : World} {a : Addr} {v : Value} (h : (w.cell? a).isSome = true) : (w.setCell a v).cell? a = some v := by
  obtain ⟨u, hu⟩ := Option.isSome_iff_exists.1 h
  exact set_same v hu
theorem nw0' (W : World) (cs : Array Value) (t : TypeId) (i : Nat) (v : Value) (h : cs[i]? = some v) : (W.alloc (.cells cs t)).cell? ⟨W.heap.size, i, none⟩ = some v := (new_cell W cs t i).trans h
theorem nw1' (W : World) (cs : Array Value) (t : TypeId) (o : Obj) (i : Nat) (v : Value) (h : cs[i]? = some v) : ((W.alloc o).alloc (.cells cs t)).cell? ⟨W.heap.size + 1, i, none⟩ = some v := by
  have := new_cell (W.alloc o) cs t i
  rw [show (W.alloc o).heap.size = W.heap.size + 1 by simp] at this
  exact this.trans h
theorem some_drew {w : World} {a : Addr} (h : (w.cell? a).isSome = true) : (w.drew.cell? a).isSome = true := h
theorem some_alloc {w : World} {a : Addr} (o : Obj) (h : (w.cell? a).isSome = true) : ((w.alloc o).cell? a).isSome = true := keep_some ((Below.refl _ _).alloc (Nat.le_refl _) _) h
theorem dg_mid' {W2 X : World} {v : Value} {n k : Nat} (h : Dg 1000000000 W2 v n) (hf : FromB k v) (hx : ∀ g, k ≤ g → g < W2.heap.size → X.heap[g]? = W2.heap[g]?) : Dg 1000000000 X v n := by
  by_cases h0 : n = 0
  · subst h0; exact dg_any h
  · exact h.same fun g hg => hx g (hf g hg) (dg_block (by decide) h h0 hg)
/-- Digits do not lie in a box of other things. -/
theorem dg_box {W : World} {v : Value} {n k : Nat} {cs : Array Value} {t : TypeId} {fz : Nat × Nat} (h : Dg 1000000000 W v n) (hn : n ≠ 0) (hbox : W.heap[k]? = some (.cells cs t fz)) (hcs : ∀ (i : Nat) x, cs[i]? = some x → ∀ kd z, x ≠ .int kd z) : v.ownBlock ≠ some k := by
  obtain ⟨A, c, rfl, _, _, hr⟩ := h
  have hl : 0 < (dg 1000000000 n).length := List.length_pos_iff.2 fun e => hn ((dg_eq_nil (by decide)).1 e)
  obtain ⟨a, rfl, hc⟩ := hr 0 hl
  rw [addr_zero] at hc
  intro e
  have hb : a.block = k := by simpa [Value.ownBlock] using e
  unfold World.cell? at hc
  rw [hb, hbox] at hc
  simp only [] at hc
  split at hc
  · cases hc
  · exact hcs _ _ hc _ _ rfl
theorem box_cells {x0 x1 x2 x3 x4 x5 : Value} (h0 : ∀ kd z, x0 ≠ .int kd z) (h1 : ∀ kd z, x1 ≠ .int kd z) (h2 : ∀ kd z, x2 ≠ .int kd z) (h3 : ∀ kd z, x3 ≠ .int kd z) (h4 : ∀ kd z, x4 ≠ .int kd z) (h5 : ∀ kd z, x5 ≠ .int kd z) :
    ∀ (i : Nat) x, (#[x0, x1, x2, x3, x4, x5] : Array Value)[i]? = some x → ∀ kd z, x ≠ .int kd z := by
  intro i x hi
  match i with
  | 0 => simp at hi; subst hi; exact h0
  | 1 => simp at hi; subst hi; exact h1
  | 2 => simp at hi; subst hi; exact h2
  | 3 => simp at hi; subst hi; exact h3
  | 4 => simp at hi; subst hi; exact h4
  | 5 => simp at hi; subst hi; exact h5
  | i + 6 => simp at hi
/-- Six stores into the box of the results. -/
theorem six_set {W : World} {B : Nat} {t : TypeId} (hbox : W.heap[B]? = some (.cells #[.bool false, .slice none 0 0, .bool false, .slice none 0 0, .bool false, .slice none 0 0] t (0, 0))) (v0 v1 v2 v3 v4 v5 : Value) :
    ∃ F, (((((W.setCell ⟨B, 0, none⟩ v0).setCell ⟨B, 1, none⟩ v1).setCell ⟨B, 2, none⟩ v2).setCell ⟨B, 3, none⟩ v3).setCell ⟨B, 4, none⟩ v4).setCell ⟨B, 5, none⟩ v5 = F
      ∧ F.cell? ⟨B, 0, none⟩ = some v0 ∧ F.cell? ⟨B, 1, none⟩ = some v1 ∧ F.cell? ⟨B, 2, none⟩ = some v2 ∧ F.cell? ⟨B, 3, none⟩ = some v3 ∧ F.cell? ⟨B, 4, none⟩ = some v4 ∧ F.cell? ⟨B, 5, none⟩ = some v5
      ∧ (∀ k w, k ≤ B → Below k w W → Below k w F) ∧ (∀ v n, Dg 1000000000 W v n → Dg 1000000000 F v n) := by
  have c0 := heap_box hbox 0; have c1 := heap_box hbox 1; have c2 := heap_box hbox 2; have c3 := heap_box hbox 3; have c4 := heap_box hbox 4; have c5 := heap_box hbox 5
  simp at c0 c1 c2 c3 c4 c5
  refine ⟨_, rfl, ?_, ?_, ?_, ?_, ?_, ?_, fun k w hk hb => ((((((hb.setCell hk _).setCell hk _).setCell hk _).setCell hk _).setCell hk _).setCell hk _), fun v n hd => ?_⟩
  · exact set_other _ (by simp) (set_other _ (by simp) (set_other _ (by simp) (set_other _ (by simp) (set_other _ (by simp) (set_same _ c0)))))
  · exact set_other _ (by simp) (set_other _ (by simp) (set_other _ (by simp) (set_other _ (by simp) (set_same _ (set_other _ (by simp) c1)))))
  · exact set_other _ (by simp) (set_other _ (by simp) (set_other _ (by simp) (set_same _ (set_other _ (by simp) (set_other _ (by simp) c2)))))
  · exact set_other _ (by simp) (set_other _ (by simp) (set_same _ (set_other _ (by simp) (set_other _ (by simp) (set_other _ (by simp) c3)))))
  · exact set_other _ (by simp) (set_same _ (set_other _ (by simp) (set_other _ (by simp) (set_other _ (by simp) (set_other _ (by simp) c4)))))
  · exact set_same _ (set_other _ (by simp) (set_other _ (by simp) (set_other _ (by simp) (set_other _ (by simp) (set_other _ (by simp) c5)))))
  · by_cases h0 : n = 0
    · subst h0; exact dg_any hd
    · have hne := dg_box hd h0 hbox (box_cells (by simp) (by simp) (by simp) (by simp) (by simp) (by simp))
      refine hd.same fun g hg => ?_
      have hgB : g ≠ B := fun e => hne (by rw [hg, e])
      rw [Below.heap_setCell _ _ _ _ hgB, Below.heap_setCell _ _ _ _ hgB, Below.heap_setCell _ _ _ _ hgB, Below.heap_setCell _ _ _ _ hgB, Below.heap_setCell _ _ _ _ hgB, Below.heap_setCell _ _ _ _ hgB]
theorem wh_of_dg {W F : World} {b : Bool} {A : Option Addr} {n c : Nat} {p : Value} {z : Int} (e : (Value.agg #[.bool b, .slice A n c]) = .agg #[.bool (decide (z < 0)), p]) (hd : Dg 1000000000 W p z.natAbs) (hf : ∀ v n, Dg 1000000000 W v n → Dg 1000000000 F v n) : Wh F (.agg #[.bool b, .slice A n c]) z := ⟨p, e, hf _ _ hd⟩
/-- A new whole's box. -/
structure Bx (w : World) (b : Nat) : Prop where
  c0 : w.cell? ⟨b, 0, none⟩ = some (.bool false)
  c1 : w.cell? ⟨b, 1, none⟩ = some (.slice none 0 0)
  f0 : w.frozen? ⟨b, 0, none⟩ = false
  f1 : w.frozen? ⟨b, 1, none⟩ = false
theorem Bx.keep {w w' : World} {b : Nat} (h : Bx w b) (hb : Below w.heap.size w w') : Bx w' b := ⟨keep_cell hb h.c0, keep_cell hb h.c1, keep_free' hb h.c0 h.f0, keep_free' hb h.c1 h.f1⟩
theorem Bx.lt {w : World} {b : Nat} (h : Bx w b) : b < w.heap.size := lt_of_some (a := ⟨b, 0, none⟩) (by rw [h.c0]; rfl)
theorem Bx.new (w : World) (t : TypeId) : Bx (w.alloc (.cells #[.bool false, .slice none 0 0] t)) w.heap.size :=
  have h := heap_alloc_new w (.cells #[.bool false, .slice none 0 0] t)
  ⟨cell_of_heap h 0, cell_of_heap h 1, free_of_heap h 0, free_of_heap h 1⟩
theorem st0 {V N : World} (h : Below V.heap.size V N) : Below V.heap.size V N := h
theorem st0d {V N : World} (h : Below V.drew.heap.size V.drew N) : Below V.heap.size V N := below_then' (Below.refl _ _).drew h
theorem st1 {V N : World} {t : TypeId} (h : Below (V.alloc (.cells #[.bool false, .slice none 0 0] t)).heap.size (V.alloc (.cells #[.bool false, .slice none 0 0] t)) N) : Below V.heap.size V N ∧ Bx N V.heap.size :=
  ⟨below_then' ((Below.refl _ _).alloc (Nat.le_refl _) _) h, (Bx.new V t).keep h⟩
theorem st1d {V N : World} {t : TypeId} (h : Below (V.alloc (.cells #[.bool false, .slice none 0 0] t)).drew.heap.size (V.alloc (.cells #[.bool false, .slice none 0 0] t)).drew N) : Below V.heap.size V N ∧ Bx N V.heap.size := st1 (t := t) (st0d h)
theorem st2 {V N : World} {t u : TypeId} (h : Below ((V.alloc (.cells #[.bool false, .slice none 0 0] t)).alloc (.cells #[.bool false, .slice none 0 0] u)).heap.size ((V.alloc (.cells #[.bool false, .slice none 0 0] t)).alloc (.cells #[.bool false, .slice none 0 0] u)) N) : Below V.heap.size V N ∧ Bx N V.heap.size ∧ Bx N (V.heap.size + 1) := by
  obtain ⟨h1, h2⟩ := st1 h
  obtain ⟨h3, h4⟩ := st1 h1
  rw [show (V.alloc (.cells #[.bool false, .slice none 0 0] t)).heap.size = V.heap.size + 1 by simp] at h2
  exact ⟨h3, h4, h2⟩
theorem st2d {V N : World} {t u : TypeId} (h : Below ((V.alloc (.cells #[.bool false, .slice none 0 0] t)).alloc (.cells #[.bool false, .slice none 0 0] u)).drew.heap.size ((V.alloc (.cells #[.bool false, .slice none 0 0] t)).alloc (.cells #[.bool false, .slice none 0 0] u)).drew N) : Below V.heap.size V N ∧ Bx N V.heap.size ∧ Bx N (V.heap.size + 1) := st2 (t := t) (u := u) (st0d h)
theorem bl1 {w W : World} (h : Below w.heap.size w W) (o : Obj) : Below w.heap.size w (W.alloc o) := h.alloc h.size _
theorem bl2 {w W : World} (h : Below w.heap.size w W) (o o' : Obj) : Below w.heap.size w ((W.alloc o).alloc o') := bl1 (bl1 h o) o'

set_option maxRecDepth 100000 in
set_option maxHeartbeats 1500000 in
theorem divisor_some (v1 v2 : Value) (x y : Int) (w : World) (h1 : Wh w v1 x) (h2 : Wh w v2 y) (hx : x.natAbs < 10 ^ 200) (hy : y.natAbs < 10 ^ 200) (hy0 : y ≠ 0) :
    Calls Tryz.prog 70 #[v1, v2] w (DivP x y w) := by
  obtain ⟨p, rfl, hp⟩ := h1
  obtain ⟨q, rfl, hq⟩ := h2
  have HP := Lib.hid hp
  have HQ := Lib.hid hq
  have HX := Lib.hid hx
  have HY := Lib.hid hy
  have HY0 := Lib.hid hy0
  obtain ⟨A6, n6, c6, rfl⟩ := hp.form
  obtain ⟨L, hL⟩ : ∃ L, (dg 1000000000 y.natAbs).length = L := ⟨_, rfl⟩
  have hl0 : 0 < L := by rw [← hL]; exact List.length_pos_iff.2 fun e => by have := (dg_eq_nil (by decide)).1 e; omega
  obtain ⟨A7, c7, hp7, -, -, -⟩ := hq
  rw [hL] at hp7
  subst hp7
  have hl1 : ((L : Int) == 0) = false := by simp; omega
  obtain ⟨bx, hbx⟩ : ∃ b, decide (x < 0) = b := ⟨_, rfl⟩
  obtain ⟨by_, hby⟩ : ∃ b, decide (y < 0) = b := ⟨_, rfl⟩
  rw [hbx, hby]
  have HBX := Lib.hid (And.intro hbx hby)
  obtain ⟨G, hG⟩ : ∃ G, Nat.gcd x.natAbs y.natAbs = G := ⟨_, rfl⟩
  have hG0 : 0 < G := by rw [← hG]; exact Nat.gcd_pos_of_pos_right _ (by omega)
  have hGy : G ≤ y.natAbs := by rw [← hG]; exact Nat.le_of_dvd (by omega) (Nat.gcd_dvd_right _ _)
  have HG := Lib.hid (And.intro hG (And.intro hG0 hGy))
  have HMN : Hid (((y.natAbs / G : Nat) : Int) ≠ 0) := by
    show _ ≠ _
    have := Nat.div_pos hGy hG0
    omega
  have HLY : Hid ((dg 1000000000 y.natAbs).length ≤ 1000000) := Nat.le_trans (len23 hy) (by decide)
  have HLX : Hid ((dg 1000000000 x.natAbs).length ≤ 1000000) := Nat.le_trans (len23 hx) (by decide)
  have HLG : Hid ((dg 1000000000 G).length ≤ 999999) := Nat.le_trans (len23 (by omega)) (by decide)
  obtain ⟨W, hW, hh0, hh1, hh2, hbel, hsz⟩ := boxes3h w #[.bool bx, .slice A6 n6 c6] #[.bool by_, .slice A7 L c7] #[.bool false, .slice none 0 0, .bool false, .slice none 0 0, .bool false, .slice none 0 0] 72 72 90
  have c00 := heap_box hh0 0; have c01 := heap_box hh0 1; have c10 := heap_box hh1 0; have c11 := heap_box hh1 1
  simp at c00 c01 c10 c11
  have HK2 := Lib.hid hh2
  have HBEL := Lib.hid hbel
  have HSZ : Hid (W.heap.size = w.heap.size + 3) := hsz
  have HPW : Hid (Dg 1000000000 W (.slice A6 n6 c6) x.natAbs) := HP.out.below hbel.to
  have HQW : Hid (Dg 1000000000 W (.slice A7 L c7) y.natAbs) := HQ.out.below hbel.to
  clear hp hbx hby hG hG0 hGy hx hy hy0 hL hl0 hh0 hh1 hh2 hbel hsz
  go_enter Tryz.func70, Tryz.ntmps70
  go_upto_region 7 with (first
    | (go_at_call 111; (with_reducible refine (combined_c _ _ x.natAbs y.natAbs _ HPW.out HQW.out HX.out HY.out).mono ?_); rintro e W1 ⟨u, v, x1, rfl, hu, ⟨p1, rfl, hp1⟩, hs, hxb, hbz⟩; rw [HG.out.1] at hu; obtain ⟨Ag, ng, cg, rfl⟩ := hu.form; obtain ⟨A1, n1, c1, rfl⟩ := hp1.form; obtain ⟨b1, hb1⟩ : ∃ b1, decide (x1 < 0) = b1 := ⟨_, rfl⟩; rw [hb1]; have HU := Lib.hid hu; have HP1 := Lib.hid hp1; have HX1 := Lib.hid (And.intro hs (And.intro hxb hb1)); have HB1 := Lib.hid hbz; have c00 := keep_cell hbz c00; have c01 := keep_cell hbz c01; have c10 := keep_cell hbz c10; have c11 := keep_cell hbz c11; obtain ⟨V1, hV1, kk, ff, hbv, hsv⟩ := boxes1 W1 #[.bool b1, .slice A1 n1 c1] 72; have e0 := kk 0; have e1 := kk 1; have g0 := ff 0; have g1 := ff 1; simp at e0 e1; have hbv := hbv.to; have c00 := keep_cell hbv c00; have c01 := keep_cell hbv c01; have c10 := keep_cell hbv c10; have c11 := keep_cell hbv c11; have HBV := Lib.hid hbv; clear hu hp1 hs hxb hb1 hbz kk ff hbv hsv)
    | (go_at_call 60; (with_reducible refine (made_c _ _ x1.natAbs _ (HP1.out.below HBV.out)).mono ?_); rintro e W2 ⟨rfl, hbz⟩; obtain ⟨s2, hs2⟩ : ∃ s2, ((!b1 == bx) && decide (0 < x1.natAbs)) = s2 := ⟨_, rfl⟩; rw [hs2]; have HS2 := Lib.hid hs2; have g0 := keep_free' hbz e0 g0; have g1 := keep_free' hbz e1 g1; have c00 := keep_cell hbz c00; have c01 := keep_cell hbz c01; have c10 := keep_cell hbz c10; have c11 := keep_cell hbz c11; have e0 := keep_cell hbz e0; have e1 := keep_cell hbz e1; have HB2 : Hid (Below W1.heap.size W1 W2) := below_then' HBV.out hbz; clear hs2 hbz hV1; have m0 := e0; have m1 := e1; have m2 := g0; have m3 := g1; obtain ⟨F, hF, y0, y1, hfar, hfz, hbf, hwf, hsf⟩ := two_set W2 W1.heap.size (.bool s2) (.slice A1 n1 c1) e0 e1; have hb1f : Below W1.heap.size W1 F := hbf _ _ (Nat.le_refl _) HB2.out; have c00 := hfar _ _ (by have h1 := HB1.out.size; have h2 := HSZ.out; simp; omega) c00; have c01 := hfar _ _ (by have h1 := HB1.out.size; have h2 := HSZ.out; simp; omega) c01; have c10 := hfar _ _ (by have h1 := HB1.out.size; have h2 := HSZ.out; simp; omega) c10; have c11 := hfar _ _ (by have h1 := HB1.out.size; have h2 := HSZ.out; simp; omega) c11; have g0 := (hfz ⟨W1.heap.size, 0, none⟩).trans g0; have g1 := (hfz ⟨W1.heap.size, 1, none⟩).trans g1; have HB1F := Lib.hid hb1f; clear hfar hfz hbf hwf hsf hb1f e0 e1; have e0 := y0; have e1 := y1; clear y0 y1)
    | (go_at_call 75; (with_reducible refine (over_c _ _ y.natAbs G _ ((HQW.out.below HB1.out).below HB1F.out) (HU.out.below HB1F.out) HG.out.2.1 HLY.out HLG.out).mono ?_); rintro e W3 ⟨ub, ur, rfl, hub, hur, -, -, hbz⟩; obtain ⟨Ab, nb, cb, rfl⟩ := hub.form; obtain ⟨Ar, nr, cr, rfl⟩ := hur.form; have g0 := keep_free' hbz e0 g0; have g1 := keep_free' hbz e1 g1; have c00 := keep_cell hbz c00; have c01 := keep_cell hbz c01; have c10 := keep_cell hbz c10; have c11 := keep_cell hbz c11; have e0 := keep_cell hbz e0; have e1 := keep_cell hbz e1; have HB3 : Hid (Below W1.heap.size W1 W3) := below_then' HB1F.out hbz; have HUB := Lib.hid hub; have HWX2 : Hid (Wh W3 (.agg #[.bool s2, .slice A1 n1 c1]) (if x < 0 then -x1 else x1)) := ⟨_, by rw [← flip_sign x x1 b1 bx HX1.out.2.2 HBX.out.1, HS2.out], by rw [flip_abs]; exact HP1.out.below HB3.out⟩; have HWM : Hid (Wh W3 (.agg #[.bool false, .slice Ab nb cb]) ((y.natAbs / G : Nat) : Int)) := ⟨_, by rw [decide_eq_false (Int.not_lt.2 (Int.natCast_nonneg _))], by rw [Int.natAbs_natCast]; exact hub⟩; have HLA : Hid ((dg 1000000000 (if x < 0 then -x1 else x1).natAbs).length ≤ 999999) := (by show _ ≤ _; rw [flip_abs]; exact dg_len_small (by have h1 := HX1.out.2.1; have h2 := HY.out; omega)); have HLB : Hid ((dg 1000000000 ((y.natAbs / G : Nat) : Int).natAbs).length ≤ 999999) := (by show _ ≤ _; rw [Int.natAbs_natCast]; exact dg_len_small (by have h2 := HY.out; have := Nat.div_le_self y.natAbs G; omega)); clear hub hur hbz hF m0 m1 m2 m3)
    | (go_at_call 66; (with_reducible refine (floor_c _ _ (if x < 0 then -x1 else x1) ((y.natAbs / G : Nat) : Int) _ HWX2.out HWM.out HMN.out HLA.out HLB.out).mono ?_); rintro e W4 ⟨u4, v4, rfl, hu4, hv4, hbz⟩; obtain ⟨b4, A4, n4, c4, rfl, hb4, -⟩ := hu4.form; obtain ⟨b5, A5, n5, c5, rfl, hb5, -⟩ := hv4.form; have HV4 := Lib.hid hv4; have HLT34 : Hid (W1.heap.size < W3.heap.size) := lt_of_some (a := ⟨W1.heap.size, 0, none⟩) (by rw [e0]; rfl); have g0 := keep_free' hbz e0 g0; have g1 := keep_free' hbz e1 g1; have c00 := keep_cell hbz c00; have c01 := keep_cell hbz c01; have c10 := keep_cell hbz c10; have c11 := keep_cell hbz c11; have e0 := keep_cell hbz e0; have e1 := keep_cell hbz e1; have HB4 : Hid (Below W1.heap.size W1 W4) := below_then' HB3.out hbz; clear hu4 hv4 hbz hb4 hb5; have m0 := e0; have m1 := e1; have m2 := g0; have m3 := g1; obtain ⟨F2, hF2, y0, y1, hfar, hfz, hbf, hwf, hsf⟩ := two_set W4 W1.heap.size (.bool b5) (.slice A5 n5 c5) e0 e1; have hb1f : Below W1.heap.size W1 F2 := hbf _ _ (Nat.le_refl _) HB4.out; have c00 := hfar _ _ (by have h1 := HB1.out.size; have h2 := HSZ.out; simp; omega) c00; have c01 := hfar _ _ (by have h1 := HB1.out.size; have h2 := HSZ.out; simp; omega) c01; have c10 := hfar _ _ (by have h1 := HB1.out.size; have h2 := HSZ.out; simp; omega) c10; have c11 := hfar _ _ (by have h1 := HB1.out.size; have h2 := HSZ.out; simp; omega) c11; have g0 := (hfz ⟨W1.heap.size, 0, none⟩).trans g0; have g1 := (hfz ⟨W1.heap.size, 1, none⟩).trans g1; have HB5 := Lib.hid hb1f; have HV5 := Lib.hid (hwf _ _ _ HLT34.out HV4.out); clear hfar hfz hbf hwf hsf hb1f e0 e1; have e0 := y0; have e1 := y1; clear y0 y1))
  clear m0 m1 m2 m3 hF2
  obtain ⟨X, hX⟩ : ∃ X, (if x < 0 then -x1 else x1).fmod ((y.natAbs / G : Nat) : Int) = X := ⟨_, rfl⟩
  obtain ⟨Y, hY⟩ : ∃ Y, ((G : Int) + -(X * x)).tdiv y = Y := ⟨_, rfl⟩
  have hfac : GcdP x y G X Y ∧ X.natAbs ≤ y.natAbs := by
    have hGi : Int.gcd x y = G := HG.out.1
    obtain ⟨s, hs⟩ := HX1.out.1
    rw [show Nat.gcd x.natAbs y.natAbs = G from HG.out.1] at hs
    obtain ⟨s', hs'⟩ := flip_sum (x := x) (y := y) hs
    have := gcd_factors (a := x) (b := y) HY0.out (x := if x < 0 then -x1 else x1) ⟨s', by rw [hGi]; exact hs'⟩ X Y (by rw [hGi]; exact hX.symm) (by rw [hGi]; exact hY.symm)
    rw [hGi] at this
    exact this
  have HFAC := Lib.hid hfac
  have HXE := Lib.hid hX
  have HYE := Lib.hid hY
  obtain ⟨t1, t2, t3⟩ := HV5.out.parts
  rw [hX] at t1 t3
  have HWX : Hid (∀ W', Below F2.heap.size F2 W' → Wh W' (.agg #[.bool b5, .slice A5 n5 c5]) X) := fun W' hW' => ⟨_, by rw [t3], t1.below hW'⟩
  have HBWF : Hid (Below w.heap.size w F2) := below_then' (below_then' HBEL.out.to HB1.out) HB5.out
  have HWA : Hid (∀ W', Below F2.heap.size F2 W' → Wh W' (.agg #[.bool bx, .slice A6 n6 c6]) x) := fun W' hW' => ⟨_, by rw [HBX.out.1], (HP.out.below HBWF.out).below hW'⟩
  have HWB : Hid (∀ W', Below F2.heap.size F2 W' → Wh W' (.agg #[.bool by_, .slice A7 L c7]) y) := fun W' hW' => ⟨_, by rw [HBX.out.2], (HQ.out.below HBWF.out).below hW'⟩
  have HWG : Hid (∀ W', Below F2.heap.size F2 W' → Wh W' (.agg #[.bool false, .slice Ag ng cg]) (G : Int)) := fun W' hW' => ⟨_, by rw [decide_eq_false (Int.not_lt.2 (Int.natCast_nonneg _))], by rw [Int.natAbs_natCast]; exact (HU.out.below HB5.out).below hW'⟩
  have hXy : X.natAbs < 10 ^ 200 := by have := hfac.2; have := HY.out; omega
  have HXF := Lib.hid hXy
  have HLX6 : Hid ((dg 1000000000 X.natAbs).length ≤ 1000000) := Nat.le_trans (len23 hXy) (by decide)
  have HLN : Hid ((dg 1000000000 (-(X * x)).natAbs).length ≤ 1000000) := by show _ ≤ _; rw [Int.natAbs_neg, Int.natAbs_mul]; exact Nat.le_trans (len_mul hXy HX.out) (by decide)
  have HLG1 : Hid ((dg 1000000000 (G : Int).natAbs).length ≤ 1000000) := by show _ ≤ _; rw [Int.natAbs_natCast]; exact Nat.le_trans HLG.out (by decide)
  have HLS : Hid ((dg 1000000000 ((G : Int) + -(X * x)).natAbs).length ≤ 1000000) := by
    show _ ≤ _
    have h1 : ((G : Int) + -(X * x)).natAbs ≤ X.natAbs * x.natAbs + y.natAbs := by
      refine Nat.le_trans (Int.natAbs_add_le _ _) ?_
      rw [Int.natAbs_neg, Int.natAbs_mul, Int.natAbs_natCast]; have := HG.out.2.2; omega
    exact Nat.le_trans (dg_length_mono (by decide) h1) (len_sq hXy HX.out HY.out)
  have HLY9 : Hid ((dg 1000000000 y.natAbs).length ≤ 999999) := Nat.le_trans (len23 HY.out) (by decide)
  have hbw : Bel F2.heap.size F2 F2 := Bel.refl _ _ (Nat.le_refl _)
  have hlt1 : W1.heap.size < F2.heap.size := lt_of_some (a := ⟨W1.heap.size, 0, none⟩) (by rw [e0]; rfl)
  have hlt2 : w.heap.size + 1 < F2.heap.size := lt_of_some (a := ⟨w.heap.size + 1, 0, none⟩) (by rw [c10]; rfl)
  have hlt3 : w.heap.size < F2.heap.size := by omega
  clear t1 t2 t3 hX hY hfac hXy
  go_cut [9, 10] from 59 to 69 (fun p9 p10 wx => ∃ (b9 : Nat) (AY : Option Addr) (nY cY : Nat), p9 = .pointer (some ⟨b9, 0, none⟩) ∧ wx.cell? ⟨b9, 0, none⟩ = some (.bool (decide (Y < 0))) ∧ wx.cell? ⟨b9, 1, none⟩ = some (.slice AY nY cY) ∧ Hid (Dg 1000000000 wx (.slice AY nY cY) Y.natAbs ∧ Below F2.heap.size F2 wx))
  case first =>
    have HE := Lib.hid (And.intro (And.intro e0 e1) (And.intro (And.intro c00 c01) (And.intro c10 c11)))
    clear e0 e1 c00 c01 c10 c11 g0 g1 hbw hl1 hlt1 hlt2 hlt3 hW hbv
    refine wp_region_at [59, 60, 61, 62, 63, 64, 65, 66, 67, 58, 68, 69, 9, 10] (Iv F2 (.slice Ag ng cg) (.agg #[.bool b5, .slice A5 n5 c5]) (.agg #[.bool bx, .slice A6 n6 c6]) (.agg #[.bool by_, .slice A7 L c7]) (X * x) ((G : Int) + -(X * x)) Y (((G : Int) + -(X * x)).tmod y)) 16 rfl (by kernel_rfl) (by kernel_rfl) ?_ ?_ ⟨?_, ?_, ?_, ?_, ?_, ?_, ?_, ?_, ?_, ?_, ?_, ?_, ?_, ?_, ?_, ?_, trivial⟩
    · intro us
      exact ⟨(Below.refl _ _).drew, fun j hj h => (none_listed h).elim, fun h => (none_listed h).elim, fun h => (none_listed h).elim⟩
    · intro l us wx hl hJ
      obtain ⟨-, g, p, hg, c0, c1, hd⟩ := hJ.st (hl 14 (by decide))
      have hb := hJ.below
      obtain ⟨Ap, np, cp, rfl⟩ := hd.form
      have HH := Lib.hid (And.intro hd hb)
      clear hl hJ hd hb
      simp only [At, List.foldl_cons, List.foldl_nil, List.setIfInBounds_toArray, List.set_cons_zero, List.set_cons_succ]
      go_wp2_with fail
      go_meet
      exact ⟨g, Ap, np, cp, hg, c0, c1, HH.out⟩
    · refine opAt rfl ?_
      intro l us wx hJ hp hl K hK
      have HJ := Lib.hid hJ
      have HP := Lib.hid hp
      have HL := Lib.hid hl
      have HK := Lib.hid hK
      have HBX' := Lib.hid hJ.below
      clear hJ hp hl hK
      have HK := HK.out
      simp only [At, List.foldl_cons, List.foldl_nil, List.setIfInBounds_toArray, List.set_cons_zero, List.set_cons_succ] at HK
      have HK := Lib.hid HK
      simp only [At, List.foldl_cons, List.foldl_nil, List.setIfInBounds_toArray, List.set_cons_zero, List.set_cons_succ]
      refine ⟨?_⟩
      go_simp
      exact HK.out (upd us 59 (.slice Ag ng cg)) wx (by exact HJ.out.val 0 (by decide) HL.out (Below.refl _ _) _ (upd_same _ _ _) (fun h => by omega))
    · refine opAt rfl ?_
      intro l us wx hJ hp hl K hK
      have HJ := Lib.hid hJ
      have HP := Lib.hid hp
      have HL := Lib.hid hl
      have HK := Lib.hid hK
      have HBX' := Lib.hid hJ.below
      clear hJ hp hl hK
      have HK := HK.out
      simp only [At, List.foldl_cons, List.foldl_nil, List.setIfInBounds_toArray, List.set_cons_zero, List.set_cons_succ] at HK
      have HK := Lib.hid HK
      have h59 := HJ.out.ph 0 (by decide) (HP.out 0 (by kernel_rfl))
      simp only [Ph] at h59
      simp only [At, List.foldl_cons, List.foldl_nil, List.setIfInBounds_toArray, List.set_cons_zero, List.set_cons_succ]
      refine ⟨?_⟩
      go_simp
      exact HK.out (upd (upd us 59 (.slice Ag ng cg)) 60 (.agg #[.bool false, .slice Ag ng cg])) wx (by rw [upd_self h59]; exact HJ.out.val 1 (by decide) HL.out (Below.refl _ _) _ (upd_same _ _ _) (fun h => by omega))
    · refine opAt rfl ?_
      intro l us wx hJ hp hl K hK
      have HJ := Lib.hid hJ
      have HP := Lib.hid hp
      have HL := Lib.hid hl
      have HK := Lib.hid hK
      have HBX' := Lib.hid hJ.below
      clear hJ hp hl hK
      have HK := HK.out
      simp only [At, List.foldl_cons, List.foldl_nil, List.setIfInBounds_toArray, List.set_cons_zero, List.set_cons_succ] at HK
      have HK := Lib.hid HK
      have k0 := keep_cell HBX'.out HE.out.1.1
      have k1 := keep_cell HBX'.out HE.out.1.2
      simp only [At, List.foldl_cons, List.foldl_nil, List.setIfInBounds_toArray, List.set_cons_zero, List.set_cons_succ]
      refine ⟨?_⟩
      go_simp
      exact HK.out (upd us 61 (.agg #[.bool b5, .slice A5 n5 c5])) wx (by exact HJ.out.val 2 (by decide) HL.out (Below.refl _ _) _ (upd_same _ _ _) (fun h => by omega))
    · refine opAt rfl ?_
      intro l us wx hJ hp hl K hK
      have HJ := Lib.hid hJ
      have HP := Lib.hid hp
      have HL := Lib.hid hl
      have HK := Lib.hid hK
      have HBX' := Lib.hid hJ.below
      clear hJ hp hl hK
      have HK := HK.out
      simp only [At, List.foldl_cons, List.foldl_nil, List.setIfInBounds_toArray, List.set_cons_zero, List.set_cons_succ] at HK
      have HK := Lib.hid HK
      have k0 := keep_cell HBX'.out HE.out.2.1.1
      have k1 := keep_cell HBX'.out HE.out.2.1.2
      simp only [At, List.foldl_cons, List.foldl_nil, List.setIfInBounds_toArray, List.set_cons_zero, List.set_cons_succ]
      refine ⟨?_⟩
      go_simp
      exact HK.out (upd us 62 (.agg #[.bool bx, .slice A6 n6 c6])) wx (by exact HJ.out.val 3 (by decide) HL.out (Below.refl _ _) _ (upd_same _ _ _) (fun h => by omega))
    · refine opAt rfl ?_
      intro l us wx hJ hp hl K hK
      have HJ := Lib.hid hJ
      have HP := Lib.hid hp
      have HL := Lib.hid hl
      have HK := Lib.hid hK
      have HBX' := Lib.hid hJ.below
      clear hJ hp hl hK
      have HK := HK.out
      simp only [At, List.foldl_cons, List.foldl_nil, List.setIfInBounds_toArray, List.set_cons_zero, List.set_cons_succ] at HK
      have HK := Lib.hid HK
      have h61 := HJ.out.ph 2 (by decide) (HP.out 2 (by kernel_rfl))
      simp only [Ph] at h61
      have h62 := HJ.out.ph 3 (by decide) (HP.out 3 (by kernel_rfl))
      simp only [Ph] at h62
      simp only [At, List.foldl_cons, List.foldl_nil, List.setIfInBounds_toArray, List.set_cons_zero, List.set_cons_succ]
      refine ⟨?_⟩
      go_simp
      go_wp2_with (go_at_call 57; (with_reducible refine (mulN_c _ _ X x _ (HWX.out _ HBX'.out) (HWA.out _ HBX'.out) HLX6.out HLX.out).mono ?_); rintro e W6 ⟨u, rfl, hu, hbz⟩; have HU6 := Lib.hid hu; have HB6 := Lib.hid hbz; clear hu hbz)
      exact HK.out (upd (upd (upd us 61 (.agg #[.bool b5, .slice A5 n5 c5])) 62 (.agg #[.bool bx, .slice A6 n6 c6])) 63 u) W6 (by rw [upd_self h61, upd_self h62]; exact HJ.out.val 4 (by decide) HL.out HB6.out _ (by show Wh W6 (upd us 63 u 63) _; rw [upd_same]; exact HU6.out.wh) (fun h => by omega))
    · refine opAt rfl ?_
      intro l us wx hJ hp hl K hK
      have HJ := Lib.hid hJ
      have HP := Lib.hid hp
      have HL := Lib.hid hl
      have HK := Lib.hid hK
      have HBX' := Lib.hid hJ.below
      clear hJ hp hl hK
      have HK := HK.out
      simp only [At, List.foldl_cons, List.foldl_nil, List.setIfInBounds_toArray, List.set_cons_zero, List.set_cons_succ] at HK
      have HK := Lib.hid HK
      have h63 := HJ.out.ph 4 (by decide) (HP.out 4 (by kernel_rfl))
      simp only [Ph] at h63
      have H63 := Lib.hid h63
      clear h63
      simp only [At, List.foldl_cons, List.foldl_nil, List.setIfInBounds_toArray, List.set_cons_zero, List.set_cons_succ]
      refine ⟨?_⟩
      go_simp
      go_wp2_with (go_at_call 94; (with_reducible refine (negN_c 0 _ (X * x) _ H63.out.zero).mono ?_); rintro e W6 ⟨u, rfl, hu, hbz⟩; have HU6 := Lib.hid hu; have HB6 := Lib.hid hbz; clear hu hbz)
      exact HK.out (upd us 64 u) W6 (by exact HJ.out.val 5 (by decide) HL.out HB6.out _ (by show Wh W6 (upd us 64 u 64) _; rw [upd_same]; exact HU6.out.wh) (fun h => by omega))
    · refine opAt rfl ?_
      intro l us wx hJ hp hl K hK
      have HJ := Lib.hid hJ
      have HP := Lib.hid hp
      have HL := Lib.hid hl
      have HK := Lib.hid hK
      have HBX' := Lib.hid hJ.below
      clear hJ hp hl hK
      have HK := HK.out
      simp only [At, List.foldl_cons, List.foldl_nil, List.setIfInBounds_toArray, List.set_cons_zero, List.set_cons_succ] at HK
      have HK := Lib.hid HK
      have h60 := HJ.out.ph 1 (by decide) (HP.out 1 (by kernel_rfl))
      simp only [Ph] at h60
      have h64 := HJ.out.ph 5 (by decide) (HP.out 5 (by kernel_rfl))
      simp only [Ph] at h64
      have H64 := Lib.hid h64
      clear h64
      simp only [At, List.foldl_cons, List.foldl_nil, List.setIfInBounds_toArray, List.set_cons_zero, List.set_cons_succ]
      refine ⟨?_⟩
      go_simp
      go_wp2_with (go_at_call 92; (with_reducible refine (add_c _ _ (G : Int) (-(X * x)) _ (HWG.out _ HBX'.out) H64.out HLG1.out HLN.out).mono ?_); rintro e W6 ⟨u, rfl, hu, hbz⟩; have HU6 := Lib.hid hu; have HB6 := Lib.hid hbz; clear hu hbz)
      exact HK.out (upd (upd us 60 (.agg #[.bool false, .slice Ag ng cg])) 65 u) W6 (by rw [upd_self h60]; exact HJ.out.val 6 (by decide) HL.out HB6.out _ (by show Wh W6 (upd us 65 u 65) _; rw [upd_same]; exact HU6.out.wh) (fun h => by omega))
    · refine opAt rfl ?_
      intro l us wx hJ hp hl K hK
      have HJ := Lib.hid hJ
      have HP := Lib.hid hp
      have HL := Lib.hid hl
      have HK := Lib.hid hK
      have HBX' := Lib.hid hJ.below
      clear hJ hp hl hK
      have HK := HK.out
      simp only [At, List.foldl_cons, List.foldl_nil, List.setIfInBounds_toArray, List.set_cons_zero, List.set_cons_succ] at HK
      have HK := Lib.hid HK
      have k0 := keep_cell HBX'.out HE.out.2.2.1
      have k1 := keep_cell HBX'.out HE.out.2.2.2
      simp only [At, List.foldl_cons, List.foldl_nil, List.setIfInBounds_toArray, List.set_cons_zero, List.set_cons_succ]
      refine ⟨?_⟩
      go_simp
      exact HK.out (upd us 66 (.agg #[.bool by_, .slice A7 L c7])) wx (by exact HJ.out.val 7 (by decide) HL.out (Below.refl _ _) _ (upd_same _ _ _) (fun h => by omega))
    · refine opAt rfl ?_
      intro l us wx hJ hp hl K hK
      have HJ := Lib.hid hJ
      have HP := Lib.hid hp
      have HL := Lib.hid hl
      have HK := Lib.hid hK
      have HBX' := Lib.hid hJ.below
      clear hJ hp hl hK
      have HK := HK.out
      simp only [At, List.foldl_cons, List.foldl_nil, List.setIfInBounds_toArray, List.set_cons_zero, List.set_cons_succ] at HK
      have HK := Lib.hid HK
      have h65 := HJ.out.ph 6 (by decide) (HP.out 6 (by kernel_rfl))
      simp only [Ph] at h65
      have H65 := Lib.hid h65
      clear h65
      have h66 := HJ.out.ph 7 (by decide) (HP.out 7 (by kernel_rfl))
      simp only [Ph] at h66
      simp only [At, List.foldl_cons, List.foldl_nil, List.setIfInBounds_toArray, List.set_cons_zero, List.set_cons_succ]
      refine ⟨?_⟩
      go_simp
      go_wp2_with (go_at_call 65; (with_reducible refine (quo_c _ _ ((G : Int) + -(X * x)) y _ H65.out (HWB.out _ HBX'.out) HY0.out HLS.out HLY9.out).mono ?_); rintro e W6 ⟨u, v, rfl, hu, hv, hbz⟩; rw [HYE.out] at hu; have HU6 := Lib.hid hu; have HV6 := Lib.hid hv; have HB6 := Lib.hid hbz; clear hu hv hbz)
      exact HK.out (upd (upd us 66 (.agg #[.bool by_, .slice A7 L c7])) 67 (.tuple #[u, v])) W6 (by rw [upd_self h66]; exact HJ.out.val 8 (by decide) HL.out HB6.out _ ⟨u, v, upd_same _ _ _, HU6.out.wh, HV6.out.wh⟩ (fun h => by omega))
    · refine opAt rfl ?_
      intro l us wx hJ hp hl K hK
      have HJ := Lib.hid hJ
      have HP := Lib.hid hp
      have HL := Lib.hid hl
      have HK := Lib.hid hK
      have HBX' := Lib.hid hJ.below
      clear hJ hp hl hK
      have HK := HK.out
      simp only [At, List.foldl_cons, List.foldl_nil, List.setIfInBounds_toArray, List.set_cons_zero, List.set_cons_succ] at HK
      have HK := Lib.hid HK
      have h67 := HJ.out.ph 8 (by decide) (HP.out 8 (by kernel_rfl))
      simp only [Ph] at h67
      obtain ⟨u, v, h67, hu, hv⟩ := h67
      have HU6 := Lib.hid hu
      have HV6 := Lib.hid hv
      clear hu hv
      simp only [At, List.foldl_cons, List.foldl_nil, List.setIfInBounds_toArray, List.set_cons_zero, List.set_cons_succ]
      refine ⟨?_⟩
      go_simp
      exact HK.out (upd (upd us 67 (.tuple #[u, v])) 58 (.tuple #[u, v])) wx (by rw [upd_self h67]; exact HJ.out.val 9 (by decide) HL.out (Below.refl _ _) _ ⟨u, v, upd_same _ _ _, HU6.out, HV6.out⟩ (fun h => by omega))
    · refine opAt rfl ?_
      intro l us wx hJ hp hl K hK
      have HJ := Lib.hid hJ
      have HP := Lib.hid hp
      have HL := Lib.hid hl
      have HK := Lib.hid hK
      have HBX' := Lib.hid hJ.below
      clear hJ hp hl hK
      have HK := HK.out
      simp only [At, List.foldl_cons, List.foldl_nil, List.setIfInBounds_toArray, List.set_cons_zero, List.set_cons_succ] at HK
      have HK := Lib.hid HK
      have h58 := HJ.out.ph 9 (by decide) (HP.out 9 (by kernel_rfl))
      simp only [Ph] at h58
      obtain ⟨bu, Au, nu, cu, bv, Av, nv, cv, h58, hu, hv⟩ := tup_form h58
      have HU6 := Lib.hid hu
      have HV6 := Lib.hid hv
      clear hu hv
      simp only [At, List.foldl_cons, List.foldl_nil, List.setIfInBounds_toArray, List.set_cons_zero, List.set_cons_succ]
      refine ⟨?_⟩
      go_simp
      exact HK.out (upd (upd us 58 (.tuple #[(.agg #[.bool bu, .slice Au nu cu]), (.agg #[.bool bv, .slice Av nv cv])])) 68 (.agg #[.bool bu, .slice Au nu cu])) wx (by rw [upd_self h58]; exact HJ.out.val 10 (by decide) HL.out (Below.refl _ _) _ (by show Wh wx (upd us 68 _ 68) _; rw [upd_same]; exact ⟨_, by rw [HU6.out.1], HU6.out.2⟩) (fun h => by omega))
    · refine opAt rfl ?_
      intro l us wx hJ hp hl K hK
      have HJ := Lib.hid hJ
      have HP := Lib.hid hp
      have HL := Lib.hid hl
      have HK := Lib.hid hK
      have HBX' := Lib.hid hJ.below
      clear hJ hp hl hK
      have HK := HK.out
      simp only [At, List.foldl_cons, List.foldl_nil, List.setIfInBounds_toArray, List.set_cons_zero, List.set_cons_succ] at HK
      have HK := Lib.hid HK
      have h58 := HJ.out.ph 9 (by decide) (HP.out 9 (by kernel_rfl))
      simp only [Ph] at h58
      obtain ⟨bu, Au, nu, cu, bv, Av, nv, cv, h58, hu, hv⟩ := tup_form h58
      have HU6 := Lib.hid hu
      have HV6 := Lib.hid hv
      clear hu hv
      simp only [At, List.foldl_cons, List.foldl_nil, List.setIfInBounds_toArray, List.set_cons_zero, List.set_cons_succ]
      refine ⟨?_⟩
      go_simp
      exact HK.out (upd (upd us 58 (.tuple #[(.agg #[.bool bu, .slice Au nu cu]), (.agg #[.bool bv, .slice Av nv cv])])) 69 (.agg #[.bool bv, .slice Av nv cv])) wx (by rw [upd_self h58]; exact HJ.out.val 11 (by decide) HL.out (Below.refl _ _) _ (by show Wh wx (upd us 69 _ 69) _; rw [upd_same]; exact ⟨_, by rw [HV6.out.1], HV6.out.2⟩) (fun h => by omega))
    · refine opAt rfl ?_
      intro l us wx hJ hp hl K hK
      have HJ := Lib.hid hJ
      have HP := Lib.hid hp
      have HL := Lib.hid hl
      have HK := Lib.hid hK
      have HBX' := Lib.hid hJ.below
      clear hJ hp hl hK
      have HK := HK.out
      simp only [At, List.foldl_cons, List.foldl_nil, List.setIfInBounds_toArray, List.set_cons_zero, List.set_cons_succ] at HK
      have HK := Lib.hid HK
      simp only [At, List.foldl_cons, List.foldl_nil, List.setIfInBounds_toArray, List.set_cons_zero, List.set_cons_succ]
      refine ⟨?_⟩
      go_simp
      exact HK.out (upd us 9 (.pointer (some ⟨wx.heap.size, 0, none⟩))) _ (by exact HJ.out.val 12 (by decide) HL.out ((Below.refl _ _).alloc (Nat.le_refl _) _) _ ⟨_, upd_same _ _ _, HBX'.out.size, _, _, _, heap_alloc_new _ _, ni_bool _, ni_slice _ _ _⟩ (fun _ => ⟨_, rfl, Nat.le_refl _⟩))
    · refine opAt rfl ?_
      intro l us wx hJ hp hl K hK
      have HJ := Lib.hid hJ
      have HP := Lib.hid hp
      have HL := Lib.hid hl
      have HK := Lib.hid hK
      have HBX' := Lib.hid hJ.below
      clear hJ hp hl hK
      have HK := HK.out
      simp only [At, List.foldl_cons, List.foldl_nil, List.setIfInBounds_toArray, List.set_cons_zero, List.set_cons_succ] at HK
      have HK := Lib.hid HK
      simp only [At, List.foldl_cons, List.foldl_nil, List.setIfInBounds_toArray, List.set_cons_zero, List.set_cons_succ]
      refine ⟨?_⟩
      go_simp
      exact HK.out (upd us 10 (.pointer (some ⟨wx.heap.size, 0, none⟩))) _ (by exact HJ.out.val 13 (by decide) HL.out ((Below.refl _ _).alloc (Nat.le_refl _) _) _ ⟨_, upd_same _ _ _, HBX'.out.size, _, _, _, heap_alloc_new _ _, ni_bool _, ni_slice _ _ _⟩ (fun _ => ⟨_, rfl, Nat.le_refl _⟩))
    · refine opAt rfl ?_
      intro l us wx hJ hp hl K hK
      have HJ := Lib.hid hJ
      have HP := Lib.hid hp
      have HL := Lib.hid hl
      have HK := Lib.hid hK
      have HBX' := Lib.hid hJ.below
      clear hJ hp hl hK
      have HK := HK.out
      simp only [At, List.foldl_cons, List.foldl_nil, List.setIfInBounds_toArray, List.set_cons_zero, List.set_cons_succ] at HK
      have HK := Lib.hid HK
      have h9 := HJ.out.ph 12 (by decide) (HP.out 12 (by kernel_rfl))
      simp only [Ph] at h9
      obtain ⟨g, hg, hgF, hbx⟩ := h9
      have h68 := HJ.out.ph 10 (by decide) (HP.out 10 (by kernel_rfl))
      simp only [Ph] at h68
      obtain ⟨bu, Ap, np, cp, h68, hbu, hd⟩ := wh_form h68
      have HBU := Lib.hid hbu
      clear hbu
      have q0 := hbx.free 0
      have q1 := hbx.free 1
      obtain ⟨z0, z1, k0, k1⟩ := hbx.cells
      have HGF := Lib.hid (And.intro hgF (And.intro hbx hd))
      clear hgF hbx hd
      simp only [At, List.foldl_cons, List.foldl_nil, List.setIfInBounds_toArray, List.set_cons_zero, List.set_cons_succ]
      refine ⟨?_⟩
      go_simp
      obtain ⟨F3, hF3, c0, c1, hbx, hbf, hdf, hfar⟩ := two_store HGF.out.2.1 (ni_bool _) (ni_slice Ap np cp)
      rw [hF3]
      have hd := HGF.out.2.2
      have hgF := HGF.out.1
      exact HK.out (upd (upd us 9 (.pointer (some ⟨g, 0, none⟩))) 68 (.agg #[.bool bu, .slice Ap np cp])) F3 (by rw [upd_self hg, upd_self h68]; exact HJ.out.st9 (HP.out 12 (by kernel_rfl)) hg hgF (by rw [HBU.out]; exact c0) c1 hd hbx hbf hdf hfar)
    · refine opAt rfl ?_
      intro l us wx hJ hp hl K hK
      have HJ := Lib.hid hJ
      have HP := Lib.hid hp
      have HL := Lib.hid hl
      have HK := Lib.hid hK
      have HBX' := Lib.hid hJ.below
      clear hJ hp hl hK
      have HK := HK.out
      simp only [At, List.foldl_cons, List.foldl_nil, List.setIfInBounds_toArray, List.set_cons_zero, List.set_cons_succ] at HK
      have HK := Lib.hid HK
      have h10 := HJ.out.ph 13 (by decide) (HP.out 13 (by kernel_rfl))
      simp only [Ph] at h10
      obtain ⟨g, hg, hgF, hbx⟩ := h10
      have h69 := HJ.out.ph 11 (by decide) (HP.out 11 (by kernel_rfl))
      simp only [Ph] at h69
      obtain ⟨bu, Ap, np, cp, h69, hbu, hd⟩ := wh_form h69
      have HBU := Lib.hid hbu
      clear hbu
      have q0 := hbx.free 0
      have q1 := hbx.free 1
      obtain ⟨z0, z1, k0, k1⟩ := hbx.cells
      have HGF := Lib.hid (And.intro hgF (And.intro hbx hd))
      clear hgF hbx hd
      simp only [At, List.foldl_cons, List.foldl_nil, List.setIfInBounds_toArray, List.set_cons_zero, List.set_cons_succ]
      refine ⟨?_⟩
      go_simp
      obtain ⟨F3, hF3, c0, c1, hbx, hbf, hdf, hfar⟩ := two_store HGF.out.2.1 (ni_bool _) (ni_slice Ap np cp)
      rw [hF3]
      have hd := HGF.out.2.2
      have hgF := HGF.out.1
      exact HK.out (upd (upd us 10 (.pointer (some ⟨g, 0, none⟩))) 69 (.agg #[.bool bu, .slice Ap np cp])) F3 (by rw [upd_self hg, upd_self h69]; exact HJ.out.st10 (HP.out 13 (by kernel_rfl)) hg hgF hbx hbf hdf hfar)
  case rest =>
    obtain ⟨b9, AY, nY, cY, rfl, d0, d1, HH⟩ := hcut
    have f0 := keep_cell HH.out.2 e0
    have f1 := keep_cell HH.out.2 e1
    have HBR : Hid (Below W.heap.size W wc) := (HB1.out.trans (HB5.out.mono HB1.out.size)).trans (HH.out.2.mono (Nat.le_trans HB1.out.size HB5.out.size))
    have hbox := heap_below HK2.out HBR.out
    have HBOX := Lib.hid hbox
    have z0 := heap_box hbox 0; have z1 := heap_box hbox 1; have z2 := heap_box hbox 2; have z3 := heap_box hbox 3; have z4 := heap_box hbox 4; have z5 := heap_box hbox 5
    have y0 := free_of_heap hbox 0; have y1 := free_of_heap hbox 1; have y2 := free_of_heap hbox 2; have y3 := free_of_heap hbox 3; have y4 := free_of_heap hbox 4; have y5 := free_of_heap hbox 5
    simp at z0 z1 z2 z3 z4 z5
    clear hbox e0 e1 c00 c01 c10 c11 g0 g1 hbw hl1 hlt1 hlt2 hlt3
    go_wp2
    obtain ⟨F, hF, r0, r1, r2, r3, r4, r5, hbf, hdf⟩ := six_set HBOX.out (.bool false) (.slice Ag ng cg) (.bool b5) (.slice A5 n5 c5) (.bool (decide (Y < 0))) (.slice AY nY cY)
    rw [hF]
    refine bodyPost_ret (v := .agg #[.bool false, .slice Ag ng cg, .bool b5, .slice A5 n5 c5, .bool (decide (Y < 0)), .slice AY nY cY]) (by simp [results, Tryz.results70, go_sem, r0, r1, r2, r3, r4, r5]) rfl ?_
    have hbw : Below w.heap.size w F := hbf _ _ (by omega) (below_then' HBEL.out.to HBR.out)
    obtain ⟨p1, e1, hd1⟩ := HWG.out wc HH.out.2
    obtain ⟨p2, e2, hd2⟩ := HWX.out wc HH.out.2
    have hy9 := HFAC.out.1.size
    have hYb : Y.natAbs < 10 ^ 200 := by rcases hy9 with h | h; exact Nat.lt_of_le_of_lt h HX.out; exact Nat.lt_of_le_of_lt h (by decide)
    exact ⟨_, _, _, _, _, _, G, X, Y, rfl, wh_of_dg e1 hd1 hdf, wh_of_dg e2 hd2 hdf, ⟨_, rfl, hdf _ _ HH.out.1⟩, HFAC.out.1, by rw [Int.natAbs_natCast]; have h1 := HG.out.2.2; have h2 := HY.out; omega, HXF.out, hYb, hbw⟩

end Go.Proofs.YtbjgpbdkofadiaaGreatDoor

namespace Go.Proofs.YtbjgpbdkofadiaaGreatDoor
set_option linter.unusedVariables false
set_option linter.unusedSimpArgs false
open Go.RowKit Go.Shelf Go.Proofs
attribute [local go_sem] max2_int min2_int max_two min_two

attribute [local go_sem ↓] Go.wp_at_zero Go.wp_at_succ
theorem dg_len0 (w : World) (A : Option Addr) (c : Nat) (hc : c ≤ 9223372036854775807) : Dg 1000000000 w (.slice A 0 c) 0 := by
  unfold Dg
  rw [dg_zero]
  exact ⟨A, c, rfl, Nat.zero_le _, hc, Row.nil⟩
theorem dg_new1 (w : World) (t : TypeId) : Dg 1000000000 (w.alloc (.cells #[.int .i64 1] t)).drew (.slice (some ⟨w.heap.size, 0, none⟩) 1 1) 1 := by
  unfold Dg
  rw [dg_one]
  refine ⟨_, _, rfl, by simp, by omega, fun j hj => ?_⟩
  obtain rfl : j = 0 := by simpa using hj
  refine ⟨_, rfl, ?_⟩
  rw [addr_zero]
  exact new_cell w _ _ 0
theorem sign_self (x : Int) : x.sign * x = (x.natAbs : Int) := by
  rcases Int.lt_trichotomy x 0 with h | h | h
  · rw [Int.sign_eq_neg_one_of_neg h]; omega
  · subst h; rfl
  · rw [Int.sign_eq_one_of_pos h]; omega
theorem rfl_nat (x : Int) (p : Value) : (Value.agg #[.bool false, p]) = .agg #[.bool (decide ((x.natAbs : Int) < 0)), p] := by
  rw [decide_eq_false (by omega)]
theorem sign_val {x : Int} {bx : Bool} (hx : x ≠ 0) (hb : decide (x < 0) = bx) (p : Value) : (Value.agg #[.bool bx, p]) = .agg #[.bool (decide (x.sign < 0)), p] := by
  rw [← hb]
  rcases Int.lt_trichotomy x 0 with h | h | h
  · rw [Int.sign_eq_neg_one_of_neg h, decide_eq_true h]; rfl
  · exact absurd h hx
  · rw [Int.sign_eq_one_of_pos h, decide_eq_false (by omega)]; rfl
theorem sign_abs {x : Int} (hx : x ≠ 0) : x.sign.natAbs = 1 := by
  rcases Int.lt_trichotomy x 0 with h | h | h
  · rw [Int.sign_eq_neg_one_of_neg h]; rfl
  · exact absurd h hx
  · rw [Int.sign_eq_one_of_pos h]; rfl
theorem sign_small (x : Int) : x.sign.natAbs < 10 ^ 200 := by
  rcases Int.lt_trichotomy x 0 with h | h | h
  · rw [Int.sign_eq_neg_one_of_neg h]; decide
  · rw [h]; decide
  · rw [Int.sign_eq_one_of_pos h]; decide
theorem gcdP_zero (x : Int) : GcdP x 0 (x.natAbs : Int) x.sign 0 where
  g_ := by simp
  sum := by rw [Int.zero_mul, Int.add_zero, sign_self]
  low := fun h => absurd rfl h
  high := fun h => absurd rfl h
  none := fun _ => ⟨rfl, rfl⟩
  size := .inr (by decide)

set_option maxRecDepth 100000 in
set_option maxHeartbeats 4000000 in
theorem divisor_zz (v1 v2 : Value) (x : Int) (w : World) (h1 : Wh w v1 x) (h2 : Wh w v2 0) (hx : x.natAbs < 10 ^ 200) (hx0 : x = 0) :
    Calls Tryz.prog 70 #[v1, v2] w (DivP x 0 w) := by
  obtain ⟨p, rfl, hp⟩ := h1
  obtain ⟨q, rfl, hq⟩ := h2
  have HP := Lib.hid hp
  have HQ := Lib.hid hq
  have HX := Lib.hid hx
  obtain ⟨L, hL⟩ : ∃ L, (dg 1000000000 x.natAbs).length = L := ⟨_, rfl⟩
  obtain ⟨A6, c6, hp6, -, -, -⟩ := hp
  rw [hL] at hp6
  subst hp6
  obtain ⟨A7, c7, hp7, -, -, -⟩ := hq
  rw [show (0 : Int).natAbs = 0 from rfl, dg_zero] at hp7
  simp only [List.length_nil] at hp7
  subst hp7
  obtain rfl : L = 0 := by rw [← hL, hx0]; exact congrArg List.length (dg_zero _)
  obtain ⟨bx, hbx⟩ : ∃ b, decide (x < 0) = b := ⟨_, rfl⟩
  rw [hbx, show decide ((0 : Int) < 0) = false from rfl]
  have HBX := Lib.hid hbx
  obtain ⟨W, hW, hh0, hh1, hh2, hbel, hsz⟩ := boxes3h w #[.bool bx, .slice A6 0 c6] #[.bool false, .slice A7 0 c7] #[.bool false, .slice none 0 0, .bool false, .slice none 0 0, .bool false, .slice none 0 0] 72 72 90
  have c00 := heap_box hh0 0; have c01 := heap_box hh0 1; have c10 := heap_box hh1 0; have c11 := heap_box hh1 1
  simp at c00 c01 c10 c11
  have HK2 := Lib.hid hh2
  have HBEL := Lib.hid hbel
  have HSZ : Hid (W.heap.size = w.heap.size + 3) := hsz
  have HPW : Hid (Dg 1000000000 W (.slice A6 0 c6) x.natAbs) := HP.out.below hbel.to
  have HQW : Hid (Dg 1000000000 W (.slice A7 0 c7) 0) := HQ.out.below hbel.to
  clear hbx hx hh0 hh1 hh2 hbel hsz hL
  go_enter Tryz.func70, Tryz.ntmps70
  go_wp2_with (go_at_call 111; (refine (combined_c _ _ x.natAbs 0 _ HPW.out HQW.out HX.out (by decide)).mono ?_); rintro e W1 ⟨u, v, x1, rfl, hu, ⟨p1, rfl, hp1⟩, hs, hxb, hbz⟩; rw [Nat.gcd_zero_right] at hu; obtain ⟨Ag, ng, cg, rfl⟩ := hu.form; obtain ⟨A1, n1, c1, rfl⟩ := hp1.form; obtain ⟨b1, hb1⟩ : ∃ b1, decide (x1 < 0) = b1 := ⟨_, rfl⟩; rw [hb1]; have HU := Lib.hid hu; have HB1 := Lib.hid hbz; have c00 := keep_cell hbz c00; have c01 := keep_cell hbz c01; have c10 := keep_cell hbz c10; have c11 := keep_cell hbz c11; obtain ⟨V1, hV1, kk, ff, hbv, hsv⟩ := boxes1 W1 #[.bool b1, .slice A1 n1 c1] 72; have hbv := hbv.to; have c00 := keep_cell hbv c00; have c01 := keep_cell hbv c01; have c10 := keep_cell hbv c10; have c11 := keep_cell hbv c11; have HBV := Lib.hid hbv; clear hu hp1 hs hxb hb1 hbz kk ff hbv hsv)
  have hbox := heap_below HK2.out (HB1.out.trans (HBV.out.mono HB1.out.size))
  have HBOX := Lib.hid hbox
  have m00 := fun (o : Obj) => keep_cell ((Below.refl V1.heap.size V1).alloc (Nat.le_refl _) o) c00
  have m01 := fun (o : Obj) => keep_cell ((Below.refl V1.heap.size V1).alloc (Nat.le_refl _) o) c01
  clear hbox hV1
  go_wp2_with fail
  go_region_with (first
    | (go_at_call 60; (with_reducible refine (made_c bx (.slice (some ⟨V1.heap.size, 0, none⟩) 0 1) 0 _ (dg_len0 _ _ _ (by decide))).mono ?_); rintro e W9 ⟨rfl, hb9⟩; rw [show (bx && decide (0 < 0)) = false from by simp]; have HB9 : Hid (Below V1.heap.size V1 W9) := below_then' ((Below.refl _ _).alloc (Nat.le_refl _) _).drew hb9; have HBX9 := Lib.hid (heap_below HBOX.out HB9.out); have z0 := heap_box HBX9.out 0; have z1 := heap_box HBX9.out 1; have z2 := heap_box HBX9.out 2; have z3 := heap_box HBX9.out 3; have z4 := heap_box HBX9.out 4; have z5 := heap_box HBX9.out 5; have y0 := free_of_heap HBX9.out 0; have y1 := free_of_heap HBX9.out 1; have y2 := free_of_heap HBX9.out 2; have y3 := free_of_heap HBX9.out 3; have y4 := free_of_heap HBX9.out 4; have y5 := free_of_heap HBX9.out 5; simp at z0 z1 z2 z3 z4 z5; have HB99 := Lib.hid hb9; clear hb9))
  all_goals
    go_wp2
    obtain ⟨F, hF, r0, r1, r2, r3, r4, r5, hbf, hdf⟩ := six_set HBX9.out (.bool false) (.slice Ag ng cg) (.bool false) (.slice (some ⟨V1.heap.size, 0, none⟩) 0 1) (.bool false) (.slice none 0 0)
    rw [hF]
    refine bodyPost_ret (v := .agg #[.bool false, .slice Ag ng cg, .bool false, .slice (some ⟨V1.heap.size, 0, none⟩) 0 1, .bool false, .slice none 0 0]) (by simp [results, Tryz.results70, go_sem, r0, r1, r2, r3, r4, r5]) rfl ?_
    have hb1 : Below w.heap.size w V1 := below_then' (below_then' HBEL.out.to HB1.out) HBV.out
    have hbw : Below w.heap.size w F := hbf _ _ (by omega) (below_then' hb1 HB9.out)
    have hX9 := HX.out
    refine ⟨_, _, _, _, _, _, (x.natAbs : Int), x.sign, 0, rfl, ⟨_, rfl_nat x _, ?_⟩, ?_, ⟨_, rfl, hdf _ _ (Dg.zero (by decide) _)⟩, gcdP_zero x, ?_, ?_, by decide, hbw⟩
    · rw [Int.natAbs_natCast]; exact hdf _ _ ((HU.out.below HBV.out).below HB9.out)
    · rw [hx0]; exact ⟨_, rfl, hdf _ _ (dg_len0 _ _ _ (by decide))⟩
    · rw [Int.natAbs_natCast]; exact hX9
    · exact sign_small x

set_option maxRecDepth 100000 in
set_option maxHeartbeats 4000000 in
theorem divisor_nz (v1 v2 : Value) (x : Int) (w : World) (h1 : Wh w v1 x) (h2 : Wh w v2 0) (hx : x.natAbs < 10 ^ 200) (hx0 : x ≠ 0) :
    Calls Tryz.prog 70 #[v1, v2] w (DivP x 0 w) := by
  obtain ⟨p, rfl, hp⟩ := h1
  obtain ⟨q, rfl, hq⟩ := h2
  have HP := Lib.hid hp
  have HQ := Lib.hid hq
  have HX := Lib.hid hx
  obtain ⟨L, hL⟩ : ∃ L, (dg 1000000000 x.natAbs).length = L := ⟨_, rfl⟩
  obtain ⟨A6, c6, hp6, -, -, -⟩ := hp
  rw [hL] at hp6
  subst hp6
  obtain ⟨A7, c7, hp7, -, -, -⟩ := hq
  rw [show (0 : Int).natAbs = 0 from rfl, dg_zero] at hp7
  simp only [List.length_nil] at hp7
  subst hp7
  have hl0 : 0 < L := by rw [← hL]; exact List.length_pos_iff.2 fun e => by have := (dg_eq_nil (by decide)).1 e; omega
  have hl1 : ¬ (L : Int) < 1 := by omega
  have hl2 : ¬ L < 1 := by omega
  have hl3 : ¬ L = 0 := by omega
  obtain ⟨bx, hbx⟩ : ∃ b, decide (x < 0) = b := ⟨_, rfl⟩
  rw [hbx, show decide ((0 : Int) < 0) = false from rfl]
  have HBX := Lib.hid hbx
  obtain ⟨W, hW, hh0, hh1, hh2, hbel, hsz⟩ := boxes3h w #[.bool bx, .slice A6 L c6] #[.bool false, .slice A7 0 c7] #[.bool false, .slice none 0 0, .bool false, .slice none 0 0, .bool false, .slice none 0 0] 72 72 90
  have c00 := heap_box hh0 0; have c01 := heap_box hh0 1; have c10 := heap_box hh1 0; have c11 := heap_box hh1 1
  simp at c00 c01 c10 c11
  have HK2 := Lib.hid hh2
  have HBEL := Lib.hid hbel
  have HSZ : Hid (W.heap.size = w.heap.size + 3) := hsz
  have HPW : Hid (Dg 1000000000 W (.slice A6 L c6) x.natAbs) := HP.out.below hbel.to
  have HQW : Hid (Dg 1000000000 W (.slice A7 0 c7) 0) := HQ.out.below hbel.to
  clear hbx hx hh0 hh1 hh2 hbel hsz hL
  go_enter Tryz.func70, Tryz.ntmps70
  go_wp2_with (go_at_call 111; (refine (combined_c _ _ x.natAbs 0 _ HPW.out HQW.out HX.out (by decide)).mono ?_); rintro e W1 ⟨u, v, x1, rfl, hu, ⟨p1, rfl, hp1⟩, hs, hxb, hbz⟩; rw [Nat.gcd_zero_right] at hu; obtain ⟨Ag, ng, cg, rfl⟩ := hu.form; obtain ⟨A1, n1, c1, rfl⟩ := hp1.form; obtain ⟨b1, hb1⟩ : ∃ b1, decide (x1 < 0) = b1 := ⟨_, rfl⟩; rw [hb1]; have HU := Lib.hid hu; have HB1 := Lib.hid hbz; have c00 := keep_cell hbz c00; have c01 := keep_cell hbz c01; have c10 := keep_cell hbz c10; have c11 := keep_cell hbz c11; obtain ⟨V1, hV1, kk, ff, hbv, hsv⟩ := boxes1 W1 #[.bool b1, .slice A1 n1 c1] 72; have hbv := hbv.to; have c00 := keep_cell hbv c00; have c01 := keep_cell hbv c01; have c10 := keep_cell hbv c10; have c11 := keep_cell hbv c11; have HBV := Lib.hid hbv; clear hu hp1 hs hxb hb1 hbz kk ff hbv hsv)
  have hbox := heap_below HK2.out (HB1.out.trans (HBV.out.mono HB1.out.size))
  have HBOX := Lib.hid hbox
  have m00 := fun (o : Obj) => keep_cell ((Below.refl V1.heap.size V1).alloc (Nat.le_refl _) o) c00
  have m01 := fun (o : Obj) => keep_cell ((Below.refl V1.heap.size V1).alloc (Nat.le_refl _) o) c01
  clear hbox hV1
  go_wp2_with fail
  go_region_with (first
    | (go_at_call 60; (with_reducible refine (made_c bx (.slice (some ⟨V1.heap.size, 0, none⟩) 1 1) 1 _ (dg_new1 V1 _)).mono ?_); rintro e W9 ⟨rfl, hb9⟩; rw [show (bx && decide (0 < 1)) = bx from by simp]; have HB9 : Hid (Below V1.heap.size V1 W9) := below_then' ((Below.refl _ _).alloc (Nat.le_refl _) _).drew hb9; have HBX9 := Lib.hid (heap_below HBOX.out HB9.out); have z0 := heap_box HBX9.out 0; have z1 := heap_box HBX9.out 1; have z2 := heap_box HBX9.out 2; have z3 := heap_box HBX9.out 3; have z4 := heap_box HBX9.out 4; have z5 := heap_box HBX9.out 5; have y0 := free_of_heap HBX9.out 0; have y1 := free_of_heap HBX9.out 1; have y2 := free_of_heap HBX9.out 2; have y3 := free_of_heap HBX9.out 3; have y4 := free_of_heap HBX9.out 4; have y5 := free_of_heap HBX9.out 5; simp at z0 z1 z2 z3 z4 z5; have HB99 := Lib.hid hb9; clear hb9))
  all_goals
    go_wp2
    obtain ⟨F, hF, r0, r1, r2, r3, r4, r5, hbf, hdf⟩ := six_set HBX9.out (.bool false) (.slice Ag ng cg) (.bool bx) (.slice (some ⟨V1.heap.size, 0, none⟩) 1 1) (.bool false) (.slice none 0 0)
    rw [hF]
    refine bodyPost_ret (v := .agg #[.bool false, .slice Ag ng cg, .bool bx, .slice (some ⟨V1.heap.size, 0, none⟩) 1 1, .bool false, .slice none 0 0]) (by simp [results, Tryz.results70, go_sem, r0, r1, r2, r3, r4, r5]) rfl ?_
    have hb1 : Below w.heap.size w V1 := below_then' (below_then' HBEL.out.to HB1.out) HBV.out
    have hbw : Below w.heap.size w F := hbf _ _ (by omega) (below_then' hb1 HB9.out)
    have hX9 := HX.out
    refine ⟨_, _, _, _, _, _, (x.natAbs : Int), x.sign, 0, rfl, ⟨_, rfl_nat x _, ?_⟩, ?_, ⟨_, rfl, hdf _ _ (Dg.zero (by decide) _)⟩, gcdP_zero x, ?_, ?_, by decide, hbw⟩
    · rw [Int.natAbs_natCast]; exact hdf _ _ ((HU.out.below HBV.out).below HB9.out)
    · refine ⟨_, sign_val (hx0) HBX.out _, ?_⟩; rw [sign_abs hx0]; exact hdf _ _ ((dg_new1 V1 _).below HB99.out)
    · rw [Int.natAbs_natCast]; exact hX9
    · exact sign_small x

/-- divisor, whatever the second integer. -/
theorem divisor_c (v1 v2 : Value) (x y : Int) (w : World) (h1 : Wh w v1 x) (h2 : Wh w v2 y) (hx : x.natAbs < 10 ^ 200) (hy : y.natAbs < 10 ^ 200) :
    Calls Tryz.prog 70 #[v1, v2] w (DivP x y w) := by
  by_cases hy0 : y = 0
  · subst hy0
    by_cases hx0 : x = 0
    · exact divisor_zz v1 v2 x w h1 h2 hx hx0
    · exact divisor_nz v1 v2 x w h1 h2 hx hx0
  · exact divisor_some v1 v2 x y w h1 h2 hx hy hy0

end Go.Proofs.YtbjgpbdkofadiaaGreatDoor

namespace Go.Proofs.YtbjgpbdkofadiaaGreatDoor
set_option linter.unusedVariables false
set_option linter.unusedSimpArgs false
open Go.RowKit Go.Shelf Go.Proofs

/-- The factors are unique. -/
theorem GcdP.unique {a b g X Y g' X' Y' : Int} (h : GcdP a b g X Y) (h' : GcdP a b g' X' Y') : g = g' ∧ X = X' ∧ Y = Y' := by
  have hg : g = g' := h.g_.trans h'.g_.symm
  refine ⟨hg, ?_⟩
  by_cases hb : b = 0
  · obtain ⟨h1, h2⟩ := h.none hb
    obtain ⟨h3, h4⟩ := h'.none hb
    exact ⟨h1.trans h3.symm, h2.trans h4.symm⟩
  · have l1 := h.low hb
    have l2 := h'.low hb
    have u1 := h.high hb
    have u2 := h'.high hb
    have s1 := h.sum
    have s2 := h'.sum
    obtain ⟨hM, hMG⟩ := gcd_quo (a := a) hb
    generalize hG : Int.gcd a b = G at *
    generalize hMM : b.natAbs / G = M at *
    have hG0 : 0 < G := by
      rcases Nat.eq_zero_or_pos G with k | k
      · rw [k] at hMG; omega
      · exact k
    -- a = G a', b = G b', a' and b' without common factor
    have hco : Nat.Coprime (a.natAbs / G) M := by
      have := Nat.coprime_div_gcd_div_gcd (m := a.natAbs) (n := b.natAbs) (show 0 < Nat.gcd a.natAbs b.natAbs by rw [show Nat.gcd a.natAbs b.natAbs = G from hG]; exact hG0)
      rw [show Nat.gcd a.natAbs b.natAbs = G from hG, hMM] at this
      exact this
    have hdv : G ∣ a.natAbs := by rw [← hG]; exact Nat.gcd_dvd_left _ _
    have haG : a.natAbs / G * G = a.natAbs := Nat.div_mul_cancel hdv
    have hd : (X - X') * a = (Y' - Y) * b := by
      have : X * a + Y * b = X' * a + Y' * b := by rw [s1, s2, hg]
      rw [Int.sub_mul, Int.sub_mul]; omega
    have hn : (X - X').natAbs * (a.natAbs / G) = (Y' - Y).natAbs * M := by
      have h1 := congrArg Int.natAbs hd
      rw [Int.natAbs_mul, Int.natAbs_mul, ← haG, ← hMG, ← Nat.mul_assoc, ← Nat.mul_assoc] at h1
      exact Nat.eq_of_mul_eq_mul_right hG0 h1
    have hdiv : M ∣ (X - X').natAbs := by
      refine (Nat.Coprime.symm hco).dvd_of_dvd_mul_right (k := M) ?_
      rw [hn]; exact Nat.dvd_mul_left _ _
    have hX : X = X' := by
      have : (X - X').natAbs < M := by omega
      have := Nat.eq_zero_of_dvd_of_lt hdiv this
      omega
    refine ⟨hX, ?_⟩
    subst hX
    have : (Y' - Y) * b = 0 := by rw [← hd]; simp
    rcases Int.mul_eq_zero.1 this with k | k
    · omega
    · exact absurd k hb

theorem wh_slice {w : World} {b : Bool} {p : Value} {z : Int} (h : Wh w (.agg #[.bool b, p]) z) : ∃ A n c, p = .slice A n c := by
  obtain ⟨p', e, hd⟩ := h
  obtain ⟨A, n, c, rfl⟩ := hd.form
  simp at e
  exact ⟨A, n, c, e.2⟩
theorem nbw (w : World) (cs : Array Value) (t : TypeId) (i : Nat) (v : Value) (h : cs[i]? = some v) : (w.alloc (.cells cs t)).drew.cell? ⟨w.heap.size, i, none⟩ = some v := (new_cell w cs t i).trans h
theorem nbf (w : World) (cs : Array Value) (t : TypeId) (i : Nat) : (w.alloc (.cells cs t)).drew.frozen? ⟨w.heap.size, i, none⟩ = false := new_free w cs t i
theorem nbh (w : World) (o : Obj) : (w.alloc o).drew.heap[w.heap.size]? = some o := heap_alloc_new w o
theorem six_new (W : World) (v0 v1 v2 v3 v4 v5 : Value) (t : TypeId) :
    ∃ F, W.alloc (.cells #[v0, v1, v2, v3, v4, v5] t) = F ∧ F.cell? ⟨W.heap.size, 0, none⟩ = some v0 ∧ F.cell? ⟨W.heap.size, 1, none⟩ = some v1 ∧ F.cell? ⟨W.heap.size, 2, none⟩ = some v2 ∧ F.cell? ⟨W.heap.size, 3, none⟩ = some v3 ∧ F.cell? ⟨W.heap.size, 4, none⟩ = some v4 ∧ F.cell? ⟨W.heap.size, 5, none⟩ = some v5
      ∧ (∀ k w, k ≤ W.heap.size → Below k w W → Below k w F) ∧ (∀ v n, Dg 1000000000 W v n → Dg 1000000000 F v n) := by
  have h := fun i => cell_of_heap (heap_alloc_new W (.cells #[v0, v1, v2, v3, v4, v5] t)) i
  exact ⟨_, rfl, h 0, h 1, h 2, h 3, h 4, h 5, fun k w hk hb => hb.alloc hk _, fun v n hd => hd.below ((Below.refl _ _).alloc (Nat.le_refl _) _)⟩
theorem three_set {W : World} {B : Nat} {u0 u1 u2 : Value} (h0 : W.cell? ⟨B, 0, none⟩ = some u0) (h1 : W.cell? ⟨B, 1, none⟩ = some u1) (h2 : W.cell? ⟨B, 2, none⟩ = some u2) (v0 v1 v2 : Value) :
    ∃ F, ((W.setCell ⟨B, 0, none⟩ v0).setCell ⟨B, 1, none⟩ v1).setCell ⟨B, 2, none⟩ v2 = F ∧ F.cell? ⟨B, 0, none⟩ = some v0 ∧ F.cell? ⟨B, 1, none⟩ = some v1 ∧ F.cell? ⟨B, 2, none⟩ = some v2 ∧ (∀ k w, k ≤ B → Below k w W → Below k w F) :=
  ⟨_, rfl, set_other (a := ⟨B, 2, none⟩) v2 (by simp) (set_other (a := ⟨B, 1, none⟩) v1 (by simp) (set_same v0 h0)), set_other (a := ⟨B, 2, none⟩) v2 (by simp) (set_same v1 (set_other (a := ⟨B, 0, none⟩) v0 (by simp) h1)),
    set_same v2 (set_other (a := ⟨B, 1, none⟩) v1 (by simp) (set_other (a := ⟨B, 0, none⟩) v0 (by simp) h2)), fun k w hk hb => ((hb.setCell hk _).setCell hk _).setCell hk _⟩
theorem wh_of {W F : World} {v : Value} {z : Int} (h : Wh W v z) (hf : ∀ v n, Dg 1000000000 W v n → Dg 1000000000 F v n) : Wh F v z := by
  obtain ⟨p, e, hd⟩ := h
  exact ⟨p, e, hf _ _ hd⟩
def gtx (z : Int) : ByteArray := ⟨(Lib.itoa z).toArray⟩
open Classical in
/-- What Gcd makes. -/
noncomputable def gcdOut (x y : Int) : Out := if h : ∃ r : Int × Int × Int, GcdP x y r.1 r.2.1 r.2.2 then .ok (.agg #[.string (gtx h.choose.1), .string (gtx h.choose.2.1), .string (gtx h.choose.2.2)]) else .err 0
theorem gcdOut_eq {x y G X Y : Int} (h : GcdP x y G X Y) : gcdOut x y = .ok (.agg #[.string (gtx G), .string (gtx X), .string (gtx Y)]) := by
  unfold gcdOut
  have h' : ∃ r : Int × Int × Int, GcdP x y r.1 r.2.1 r.2.2 := ⟨(G, X, Y), h⟩
  rw [dif_pos h']
  obtain ⟨h1, h2, h3⟩ := h'.choose_spec.unique h
  rw [h1, h2, h3]

set_option maxRecDepth 100000 in
set_option maxHeartbeats 32000000 in
theorem gcd1_c (lv : Value) (x y : Int) (w : World) (h : Whs w lv [x, y]) (ht : Tabs w)
    (hd : ∀ W v1 v2, Wh W v1 x → Wh W v2 y → Calls Tryz.prog 70 #[v1, v2] W (DivP x y W)) :
    Calls Tryz.prog 69 #[lv] w fun e w' => e = (gcdOut x y).end_ ∧ Below w.heap.size w w' := by
  obtain ⟨a, c, p, q, rfl, c0, c1, hp, c2, c3, hq⟩ := h.two
  obtain ⟨W, hW, kk, ff, hbel, hsz⟩ := boxes1 w #[.string ⟨#[]⟩, .string ⟨#[]⟩, .string ⟨#[]⟩] 87
  have HT := Lib.hid ht
  have HD := Lib.hid hd
  have HX : Hid (∀ W', Below W.heap.size W W' → Wh W' (.agg #[.bool (decide (x < 0)), p]) x) := fun W' hb => ⟨p, rfl, (hp.below hbel.to).below hb⟩
  have HY : Hid (∀ W', Below W.heap.size W W' → Wh W' (.agg #[.bool (decide (y < 0)), q]) y) := fun W' hb => ⟨q, rfl, (hq.below hbel.to).below hb⟩
  obtain ⟨A6, n6, c6, rfl⟩ := hp.form
  obtain ⟨A7, n7, c7, rfl⟩ := hq.form
  generalize hbx : decide (x < 0) = bx at *
  generalize hby : decide (y < 0) = by_ at *
  have ha0 : a < W.heap.size := by have := World.block_lt_of_cell? w _ c0; simp at this; omega
  have k0 := keep_cell hbel.to c0
  have k1 := keep_cell hbel.to c1
  have k2 := keep_cell hbel.to c2
  have k3 := keep_cell hbel.to c3
  have r0 := kk 0
  have r1 := kk 1
  have r2 := kk 2
  have g0 := ff 0
  have g1 := ff 1
  have g2 := ff 2
  simp at r0 r1 r2
  have HBEL := Lib.hid hbel
  have HSZ : Hid (W.heap.size = w.heap.size + 1) := hsz
  have HWW := Lib.hid hW
  rw [← hW] at k0 k1 k2 k3
  clear h ht hp hq hd hbx hby kk ff hbel hsz c0 c1 c2 c3
  clear hW
  go_enter Tryz.func69, Tryz.ntmps69
  go_upto_region 1 with fail
  rw [HWW.out] at k0 k1 k2 k3
  try rw [HWW.out]
  go_cut [3] from 4 to 11 (fun p3 wx => ∃ (b3 : Nat) (b1 b2 b4 : Bool) (E1 E2 E4 : Option Addr) (m1 d1 m2 d2 m4 d4 : Nat) (G X Y : Int), p3 = .pointer (some ⟨b3, 0, none⟩) ∧ wx.cell? ⟨b3, 0, none⟩ = some (.bool b1) ∧ wx.cell? ⟨b3, 1, none⟩ = some (.slice E1 m1 d1) ∧ wx.cell? ⟨b3, 2, none⟩ = some (.bool b2) ∧ wx.cell? ⟨b3, 3, none⟩ = some (.slice E2 m2 d2) ∧ wx.cell? ⟨b3, 4, none⟩ = some (.bool b4) ∧ wx.cell? ⟨b3, 5, none⟩ = some (.slice E4 m4 d4) ∧ Hid (Wh wx (.agg #[.bool b1, .slice E1 m1 d1]) G ∧ Wh wx (.agg #[.bool b2, .slice E2 m2 d2]) X ∧ Wh wx (.agg #[.bool b4, .slice E4 m4 d4]) Y) ∧ Hid (GcdP x y G X Y ∧ G.natAbs < 10 ^ 200 ∧ X.natAbs < 10 ^ 200 ∧ Y.natAbs < 10 ^ 200) ∧ Hid (Below W.heap.size W wx))
  case first =>
    have hbw : Bel W.heap.size W W := Bel.refl _ _ (Nat.le_refl _)
    go_region_with
      ((go_at_call 70; refine (HD.out _ _ _ (HX.out _ ?_) (HY.out _ ?_)).mono ?_; (first | (with_reducible exact Below.refl _ _) | (with_reducible exact (Below.refl _ _).drew) | (with_reducible exact ((Below.refl _ _).alloc (Nat.le_refl _) _).drew) | (with_reducible exact ((Below.refl _ _).alloc (Nat.le_refl _) _))); (first | (with_reducible exact Below.refl _ _) | (with_reducible exact (Below.refl _ _).drew) | (with_reducible exact ((Below.refl _ _).alloc (Nat.le_refl _) _).drew) | (with_reducible exact ((Below.refl _ _).alloc (Nat.le_refl _) _))); rintro e W2 ⟨b1, b2, b4, p1, p2, p4, G, X, Y, rfl, hg, hx, hy, hgp, hg9, hx9, hy9, hbz⟩; obtain ⟨E1, m1, d1, rfl⟩ := wh_slice hg; obtain ⟨E2, m2, d2, rfl⟩ := wh_slice hx; obtain ⟨E4, m4, d4, rfl⟩ := wh_slice hy; have HG := Lib.hid hg; have HXX := Lib.hid hx; have HYY := Lib.hid hy; have HP := Lib.hid (And.intro hgp (And.intro hg9 (And.intro hx9 hy9))); have HBZ := Lib.hid hbz; have hm := hbz.size; simp at hm; (first | (with_reducible (have d00 := keep_cell hbz (nbw W #[.bool false, .slice none 0 0, .bool false, .slice none 0 0, .bool false, .slice none 0 0] 90 0 _ rfl); have e00 := keep_free' hbz (nbw W #[.bool false, .slice none 0 0, .bool false, .slice none 0 0, .bool false, .slice none 0 0] 90 0 _ rfl) (nbf W #[.bool false, .slice none 0 0, .bool false, .slice none 0 0, .bool false, .slice none 0 0] 90 0); have d11 := keep_cell hbz (nbw W #[.bool false, .slice none 0 0, .bool false, .slice none 0 0, .bool false, .slice none 0 0] 90 1 _ rfl); have e11 := keep_free' hbz (nbw W #[.bool false, .slice none 0 0, .bool false, .slice none 0 0, .bool false, .slice none 0 0] 90 1 _ rfl) (nbf W #[.bool false, .slice none 0 0, .bool false, .slice none 0 0, .bool false, .slice none 0 0] 90 1); have d22 := keep_cell hbz (nbw W #[.bool false, .slice none 0 0, .bool false, .slice none 0 0, .bool false, .slice none 0 0] 90 2 _ rfl); have e22 := keep_free' hbz (nbw W #[.bool false, .slice none 0 0, .bool false, .slice none 0 0, .bool false, .slice none 0 0] 90 2 _ rfl) (nbf W #[.bool false, .slice none 0 0, .bool false, .slice none 0 0, .bool false, .slice none 0 0] 90 2); have d33 := keep_cell hbz (nbw W #[.bool false, .slice none 0 0, .bool false, .slice none 0 0, .bool false, .slice none 0 0] 90 3 _ rfl); have e33 := keep_free' hbz (nbw W #[.bool false, .slice none 0 0, .bool false, .slice none 0 0, .bool false, .slice none 0 0] 90 3 _ rfl) (nbf W #[.bool false, .slice none 0 0, .bool false, .slice none 0 0, .bool false, .slice none 0 0] 90 3); have d44 := keep_cell hbz (nbw W #[.bool false, .slice none 0 0, .bool false, .slice none 0 0, .bool false, .slice none 0 0] 90 4 _ rfl); have e44 := keep_free' hbz (nbw W #[.bool false, .slice none 0 0, .bool false, .slice none 0 0, .bool false, .slice none 0 0] 90 4 _ rfl) (nbf W #[.bool false, .slice none 0 0, .bool false, .slice none 0 0, .bool false, .slice none 0 0] 90 4); have d55 := keep_cell hbz (nbw W #[.bool false, .slice none 0 0, .bool false, .slice none 0 0, .bool false, .slice none 0 0] 90 5 _ rfl); have e55 := keep_free' hbz (nbw W #[.bool false, .slice none 0 0, .bool false, .slice none 0 0, .bool false, .slice none 0 0] 90 5 _ rfl) (nbf W #[.bool false, .slice none 0 0, .bool false, .slice none 0 0, .bool false, .slice none 0 0] 90 5); have HBX := Lib.hid (heap_below (nbh W (.cells #[.bool false, .slice none 0 0, .bool false, .slice none 0 0, .bool false, .slice none 0 0] 90)) hbz))) | (have HBX := Lib.hid (heap_alloc_new W2 (.cells #[.bool false, .slice none 0 0, .bool false, .slice none 0 0, .bool false, .slice none 0 0] 90)))); clear hg hx hy hgp hg9 hx9 hy9))
    all_goals
      go_wp2_with fail
      (first
      | (obtain ⟨F, hF, r0, r1, r2, r3, r4, r5, hbf, hdf⟩ := six_set HBX.out (.bool b1) (.slice E1 m1 d1) (.bool b2) (.slice E2 m2 d2) (.bool b4) (.slice E4 m4 d4); rw [hF])
      | (obtain ⟨F, hF, r0, r1, r2, r3, r4, r5, hbf, hdf⟩ := six_new W2 (.bool b1) (.slice E1 m1 d1) (.bool b2) (.slice E2 m2 d2) (.bool b4) (.slice E4 m4 d4) 90; rw [hF]))
      go_meet
      refine ⟨_, b1, b2, b4, E1, E2, E4, m1, d1, m2, d2, m4, d4, G, X, Y, rfl, r0, r1, r2, r3, r4, r5, ⟨wh_of HG.out hdf, wh_of HXX.out hdf, wh_of HYY.out hdf⟩, HP.out, ?_⟩
      refine hbf _ _ (by omega) ?_
      (first | exact HBZ.out | exact below_then' (Below.refl _ _).drew HBZ.out | exact below_then' ((Below.refl _ _).alloc (Nat.le_refl _) _).drew HBZ.out | exact below_then' ((Below.refl _ _).alloc (Nat.le_refl _) _) HBZ.out | (trace_state; fail))
  case rest =>
    obtain ⟨b3, b1, b2, b4, E1, E2, E4, m1, d1, m2, d2, m4, d4, G, X, Y, rfl, s0, s1, s2, s3, s4, s5, HWH, HP, HBB⟩ := hcut
    have d0 := keep_cell HBB.out r0
    have d1' := keep_cell HBB.out r1
    have d2' := keep_cell HBB.out r2
    have z0 := keep_free' HBB.out r0 g0
    have z1 := keep_free' HBB.out r1 g1
    have z2 := keep_free' HBB.out r2 g2
    have HBC : Hid (Below w.heap.size w wc) := below_then' HBEL.out.to HBB.out
    have HFG : Hid (textOut G = .ok (.string (gtx G))) := if_pos HP.out.2.1
    have HFX : Hid (textOut X = .ok (.string (gtx X))) := if_pos HP.out.2.2.1
    have HFY : Hid (textOut Y = .ok (.string (gtx Y))) := if_pos HP.out.2.2.2
    have HLG : Hid ((dg 1000000000 G.natAbs).length ≤ 1000000) := Nat.le_trans (len23 HP.out.2.1) (by decide)
    have HLX : Hid ((dg 1000000000 X.natAbs).length ≤ 1000000) := Nat.le_trans (len23 HP.out.2.2.1) (by decide)
    have HLY : Hid ((dg 1000000000 Y.natAbs).length ≤ 1000000) := Nat.le_trans (len23 HP.out.2.2.2) (by decide)
    have HO : Hid (gcdOut x y = .ok (.agg #[.string (gtx G), .string (gtx X), .string (gtx Y)])) := gcdOut_eq HP.out.1
    have HG1 : Hid (∀ w', Below wc.heap.size wc w' → Wh w' (.agg #[.bool b1, .slice E1 m1 d1]) G) := fun w' hb => HWH.out.1.below hb
    have HX1 : Hid (∀ w', Below wc.heap.size wc w' → Wh w' (.agg #[.bool b2, .slice E2 m2 d2]) X) := fun w' hb => HWH.out.2.1.below hb
    have HY1 : Hid (∀ w', Below wc.heap.size wc w' → Wh w' (.agg #[.bool b4, .slice E4 m4 d4]) Y) := fun w' hb => HWH.out.2.2.below hb
    clear r0 r1 r2 g0 g1 g2 k0 k1 k2 k3 ha0
    go_wp2_with fail
    go_region_with (first
      | (go_at_call 58; refine (text_out _ Y _ (HY1.out _ HQ2.out) (HT.out.below (below_then' HBC.out HQ2.out)) HLY.out).mono ?_; rw [HFY.out]; rintro e V3 ⟨he, hbz⟩; have he2 : e = .returned (.string (gtx Y)) := he; subst he2; have z0 := keep_free' hbz d0 z0; have z1 := keep_free' hbz d1' z1; have z2 := keep_free' hbz d2' z2; have d0 := keep_cell hbz d0; have d1' := keep_cell hbz d1'; have d2' := keep_cell hbz d2'; have HQ3 := Lib.hid (below_then' HQ2.out hbz); clear he hbz)
      | (go_at_call 58; refine (text_out _ X _ (HX1.out _ HQ1.out) (HT.out.below (below_then' HBC.out HQ1.out)) HLX.out).mono ?_; rw [HFX.out]; rintro e V2 ⟨he, hbz⟩; have he2 : e = .returned (.string (gtx X)) := he; subst he2; have z0 := keep_free' hbz d0 z0; have z1 := keep_free' hbz d1' z1; have z2 := keep_free' hbz d2' z2; have d0 := keep_cell hbz d0; have d1' := keep_cell hbz d1'; have d2' := keep_cell hbz d2'; have s4 := keep_cell hbz s4; have s5 := keep_cell hbz s5; have HQ2 := Lib.hid (below_then' HQ1.out hbz); clear he hbz)
      | (go_at_call 58; refine (text_out _ G _ (HG1.out _ (Below.refl _ _).drew) (HT.out.below HBC.out.drew) HLG.out).mono ?_; rw [HFG.out]; rintro e V1 ⟨he, hbz⟩; have he2 : e = .returned (.string (gtx G)) := he; subst he2; have z0 := keep_free' hbz d0 z0; have z1 := keep_free' hbz d1' z1; have z2 := keep_free' hbz d2' z2; have d0 := keep_cell hbz d0; have d1' := keep_cell hbz d1'; have d2' := keep_cell hbz d2'; have s2 := keep_cell hbz s2; have s3 := keep_cell hbz s3; have s4 := keep_cell hbz s4; have s5 := keep_cell hbz s5; have HQ1 := Lib.hid (below_then' (Below.refl wc.heap.size wc).drew hbz); clear he hbz))
    all_goals
      go_wp2
      obtain ⟨F, hF, t0, t1, t2, hbf⟩ := three_set d0 d1' d2' (.string (gtx G)) (.string (gtx X)) (.string (gtx Y))
      rw [hF]
      refine bodyPost_ret (v := .agg #[.string (gtx G), .string (gtx X), .string (gtx Y)]) (by simp [results, Tryz.results69, go_sem, t0, t1, t2]) rfl ?_
      exact ⟨by rw [HO.out]; rfl, hbf _ _ (Nat.le_refl _) (below_then' HBC.out HQ3.out)⟩

end Go.Proofs.YtbjgpbdkofadiaaGreatDoor

namespace Go.Proofs.YtbjgpbdkofadiaaGreatDoor
set_option linter.unusedVariables false
set_option linter.unusedSimpArgs false
open Go.RowKit Go.Shelf Go.Proofs

/-- The three texts and the error. -/
def four : Out → Value
  | .ok (.agg #[a, b, c]) => .tuple #[a, b, c, .int .i64 0]
  | .ok v => v
  | .err k => .tuple #[.string ⟨#[]⟩, .string ⟨#[]⟩, .string ⟨#[]⟩, .int .i64 k]
/-- What Gcd of two strings returns. -/
def GcdA (S T : ByteArray) (w : World) (e : Ending) (w' : World) : Prop :=
  ((∃ x y, NumL S.data.toList x ∧ NumL T.data.toList y ∧ e = .returned (four (gcdOut x y))) ∨ ((¬ ((∃ x, NumL S.data.toList x) ∧ ∃ y, NumL T.data.toList y)) ∧ e = .returned (.tuple #[.string ⟨#[]⟩, .string ⟨#[]⟩, .string ⟨#[]⟩, .int .i64 1]))) ∧ Below w.heap.size w w'
theorem GcdA.more {S T : ByteArray} {w w1 w2 : World} {e : Ending} (h : GcdA S T w e w1) (hb : Below w1.heap.size w1 w2) : GcdA S T w e w2 := ⟨h.1, below_then' h.2 hb⟩
noncomputable def gd2 (zs : List Int) : Out := gcdOut (zs.headD 0) (zs.getD 1 0)
theorem gcdOut_form (x y : Int) : (∃ a b c, gcdOut x y = .ok (.agg #[.string a, .string b, .string c])) ∨ ∃ k, gcdOut x y = .err k := by
  unfold gcdOut
  split
  · exact .inl ⟨_, _, _, rfl⟩
  · exact .inr ⟨_, rfl⟩
theorem with_gcd {S T : ByteArray} {w w0 w' : World} {e : Ending} (h : WithP [S, T] gd2 (.agg #[.string ⟨#[]⟩, .string ⟨#[]⟩, .string ⟨#[]⟩]) w0 e w') (hb : Below w.heap.size w w0) :
    ∃ a b c k, e = .returned (.tuple #[.agg #[.string a, .string b, .string c], .int .i64 k]) ∧ GcdA S T w (.returned (.tuple #[.string a, .string b, .string c, .int .i64 k])) w' := by
  obtain ⟨h, h2⟩ := h
  have hbb := below_then' hb h2
  rcases h with ⟨zs, hz, rfl⟩ | ⟨hn, rfl⟩
  · obtain ⟨x, y, rfl, hx, hy⟩ := two_zs hz
    have e2 : gd2 [x, y] = gcdOut x y := rfl
    rw [e2]
    rcases gcdOut_form x y with ⟨a, b, c, h'⟩ | ⟨k, h'⟩
    · rw [h']; exact ⟨a, b, c, 0, rfl, .inl ⟨x, y, hx, hy, by rw [h']; rfl⟩, hbb⟩
    · rw [h']; exact ⟨_, _, _, k, rfl, .inl ⟨x, y, hx, hy, by rw [h']; rfl⟩, hbb⟩
  · refine ⟨_, _, _, _, rfl, .inr ⟨?_, rfl⟩, hbb⟩
    rintro ⟨⟨x, hx⟩, y, hy⟩
    refine hn ⟨[x, y], rfl, fun j hj => ?_⟩
    match j, hj with
    | 0, _ => simpa using hx
    | 1, _ => simpa using hy

set_option maxRecDepth 100000 in
set_option maxHeartbeats 2000000 in
theorem numGcd_g (S T : ByteArray) (w : World) (ht : Tabs w)
    (hd : ∀ x y, NumL S.data.toList x → NumL T.data.toList y → ∀ W v1 v2, Wh W v1 x → Wh W v2 y → Calls Tryz.prog 70 #[v1, v2] W (DivP x y W)) :
    Calls Tryz.prog 32 #[.string S, .string T] w (GcdA S T w) := by
  have HT := Lib.hid ht
  have HD := Lib.hid hd
  have HS2 : Hid (Strs (w.alloc (.cells #[.string S, .string T] 9)) (.slice (some ⟨w.heap.size, 0, none⟩) 2 2) [S, T]) := strs_two w S T 9
  clear ht hd
  go_enter Tryz.func32, Tryz.ntmps32
  go_wp2_with (go_at_call 68; refine (with3_c 69 #[] (enters_of Tryz.func69 (by kernel_rfl) rfl) _ [S, T] gd2 _ HS2.out (by simp) ?hok ?hf).mono ?_)
  case hok =>
    intro zs r hz h
    obtain ⟨x, y, rfl, hx, hy⟩ := two_zs hz
    have e2 : gd2 [x, y] = gcdOut x y := rfl
    rw [e2] at h
    rcases gcdOut_form x y with ⟨a, b, c, h'⟩ | ⟨k, h'⟩
    · rw [h'] at h; cases h; exact ⟨a, b, c, rfl⟩
    · rw [h'] at h; cases h
  case hf =>
    intro zs hz W lv hb hw
    obtain ⟨x, y, rfl, hx, hy⟩ := two_zs hz
    exact gcd1_c lv x y W hw (HT.out.below (Below.trans ((Below.refl w.heap.size w).alloc (Nat.le_refl _) _) (hb.mono (by first | (simp; done) | (simp; omega) | omega)))) (HD.out x y hx hy)
  rintro e w' h
  obtain ⟨a, b, c, k, rfl, hr⟩ := with_gcd h ((Below.refl w.heap.size w).alloc (Nat.le_refl _) _)
  have HR := Lib.hid hr
  clear h hr
  go_wp2_with fail
  go_region
  all_goals
    go_wp2
    refine bodyPost_ret (v := .tuple #[.string a, .string b, .string c, .int .i64 k]) (by simp [results, Tryz.results32, go_sem]) rfl ?_
    exact HR.out.more (((Below.refl _ w').alloc (Nat.le_refl _) _).drew)

end Go.Proofs.YtbjgpbdkofadiaaGreatDoor

namespace Go.Proofs.YtbjgpbdkofadiaaGreatDoor
set_option linter.unusedVariables false
set_option linter.unusedSimpArgs false
open Go.RowKit Go.Shelf Go.Proofs

theorem gcd_12_18 : GcdP 12 18 6 2 (-1) where
  g_ := by decide
  sum := by decide
  low := fun _ => by decide
  high := fun _ => by decide
  none := fun h => absurd h (by decide)
  size := .inl (by decide)

theorem gcd_s : GcdS := by
  intro w ht
  refine (numGcd_g _ _ w ht ?_).mono ?_
  · intro x y hx hy W v1 v2 h1 h2
    have hy8 : y = 18 := itoa_inj (hy.1.symm.trans nl_18.1)
    exact divisor_some v1 v2 x y W h1 h2 hx.2 hy.2 (by rw [hy8]; decide)
  · rintro e w' ⟨⟨x, y, hx, hy, rfl⟩ | ⟨hn, _⟩, hb⟩
    · obtain rfl := itoa_inj (hx.1.symm.trans nl_12.1)
      obtain rfl := itoa_inj (hy.1.symm.trans nl_18.1)
      refine ⟨?_, hb⟩
      rw [gcdOut_eq gcd_12_18]
      show Ending.returned (.tuple #[.string (gtx 6), .string (gtx 2), .string (gtx (-1)), .int .i64 0]) = _
      rw [show gtx 6 = ⟨#[54]⟩ from by decide +kernel, show gtx 2 = ⟨#[50]⟩ from by decide +kernel, show gtx (-1) = ⟨#[45, 49]⟩ from by decide +kernel]
    · exact absurd ⟨⟨_, nl_12⟩, _, nl_18⟩ hn

/-- sanity answers true. -/
theorem sanity_c : San := sanity_g gcd_s

end Go.Proofs.YtbjgpbdkofadiaaGreatDoor

namespace Go.Proofs.YtbjgpbdkofadiaaGreatDoor
set_option linter.unusedVariables false
set_option linter.unusedSimpArgs false
open Go.RowKit Go.Shelf Go.Proofs

theorem bezout_nat : ∀ (n a b : Nat), b ≤ n → ∃ s t : Int, s * (a : Int) + t * (b : Int) = (Nat.gcd a b : Int)
  | 0, a, b, h => ⟨1, 0, by
    obtain rfl : b = 0 := by omega
    simp⟩
  | n + 1, a, b, h => by
    by_cases hb : b = 0
    · exact ⟨1, 0, by subst hb; simp⟩
    · obtain ⟨s, t, e⟩ := bezout_nat n b (a % b) (by have := Nat.mod_lt a (Nat.pos_of_ne_zero hb); omega)
      refine ⟨t, s + -(t * ((a / b : Nat) : Int)), ?_⟩
      have h4 : ((a : Nat) : Int) = (b : Int) * ((a / b : Nat) : Int) + ((a % b : Nat) : Int) := by exact_mod_cast (Nat.div_add_mod a b).symm
      have h5 : Nat.gcd a b = Nat.gcd b (a % b) := by rw [Nat.gcd_comm b, ← Nat.gcd_rec b a, Nat.gcd_comm]
      rw [h5, ← e]
      have h6 : ((a % b : Nat) : Int) = (a : Int) - (b : Int) * ((a / b : Nat) : Int) := by omega
      rw [h6]; grind
theorem bezout_int (x y : Int) : ∃ s t : Int, s * x + t * y = (Int.gcd x y : Int) := by
  obtain ⟨s, t, e⟩ := bezout_nat y.natAbs x.natAbs y.natAbs (Nat.le_refl _)
  have e' : s * (x.natAbs : Int) + t * (y.natAbs : Int) = (Int.gcd x y : Int) := e
  obtain ⟨s', hs⟩ : ∃ s' : Int, s' * x = s * (x.natAbs : Int) := by
    rcases Int.natAbs_eq x with h | h
    · exact ⟨s, by rw [← h]⟩
    · exact ⟨-s, by rw [show (x.natAbs : Int) = -x by omega]; grind⟩
  obtain ⟨t', ht⟩ : ∃ t' : Int, t' * y = t * (y.natAbs : Int) := by
    rcases Int.natAbs_eq y with h | h
    · exact ⟨t, by rw [← h]⟩
    · exact ⟨-t, by rw [show (y.natAbs : Int) = -y by omega]; grind⟩
  exact ⟨s', t', by rw [hs, ht, e']⟩
/-- There are such factors. -/
theorem gcdP_ex (x y : Int) : ∃ X Y, GcdP x y (Int.gcd x y : Int) X Y := by
  by_cases hy : y = 0
  · subst hy
    refine ⟨x.sign, 0, ?_⟩
    have h := gcdP_zero x
    rw [show (Int.gcd x 0 : Int) = (x.natAbs : Int) by simp]
    exact h
  · obtain ⟨s, t, e⟩ := bezout_int x y
    exact ⟨_, _, (gcd_factors hy ⟨t, e⟩ _ _ rfl rfl).1⟩
/-- Their sizes. -/
theorem gcdP_fit {x y G X Y : Int} (h : GcdP x y G X Y) (hx : x.natAbs < 10 ^ 200) (hy : y.natAbs < 10 ^ 200) : G.natAbs < 10 ^ 200 ∧ X.natAbs < 10 ^ 200 ∧ Y.natAbs < 10 ^ 200 := by
  have hY : Y.natAbs < 10 ^ 200 := by
    rcases h.size with k | k
    · omega
    · exact Nat.lt_of_le_of_lt k (by decide)
  have hgd : Int.gcd x y = 0 ∨ Int.gcd x y ≤ x.natAbs ∨ Int.gcd x y ≤ y.natAbs := by
    by_cases h0 : x.natAbs = 0
    · by_cases h1 : y.natAbs = 0
      · left; show Nat.gcd x.natAbs y.natAbs = 0; rw [h0, h1]; rfl
      · exact .inr (.inr (Nat.le_of_dvd (by omega) (Nat.gcd_dvd_right _ _)))
    · exact .inr (.inl (Nat.le_of_dvd (by omega) (Nat.gcd_dvd_left _ _)))
  refine ⟨?_, ?_, hY⟩
  · rw [h.g_, Int.natAbs_natCast]
    rcases hgd with k | k | k
    · rw [k]; decide
    · omega
    · omega
  · by_cases hy0 : y = 0
    · rw [(h.none hy0).1]; exact sign_small x
    · have h1 := h.low hy0
      have h2 := h.high hy0
      have h3 : y.natAbs / Int.gcd x y ≤ y.natAbs := Nat.div_le_self _ _
      omega

/-- A call answers with three texts and no error. -/
def Ans3 (s t u : ByteArray) (w : World) (e : Ending) (w' : World) : Prop := e = .returned (.tuple #[.string s, .string t, .string u, .int .i64 0]) ∧ Below w.heap.size w w'
theorem law_gcd (S T : ByteArray) (x y G X Y : Int) (s t u : ByteArray) (w : World) (hS : NumL S.data.toList x) (hT : NumL T.data.toList y) (h : GcdP x y G X Y) (hs : txt G = s) (ht' : txt X = t) (hu : txt Y = u) (ht : Tabs w) :
    Calls Tryz.prog 32 #[.string S, .string T] w (Ans3 s t u w) := by
  obtain ⟨f1, f2, f3⟩ := gcdP_fit h hS.2 hT.2
  refine (numGcd_g S T w ht ?_).mono ?_
  · intro x' y' hx' hy' W v1 v2 h1 h2
    exact divisor_c v1 v2 x' y' W h1 h2 hx'.2 hy'.2
  · rintro e w' ⟨⟨x', y', hx', hy', rfl⟩ | ⟨hn, _⟩, hb⟩
    · obtain rfl := itoa_inj (hS.1.symm.trans hx'.1)
      obtain rfl := itoa_inj (hT.1.symm.trans hy'.1)
      refine ⟨?_, hb⟩
      rw [gcdOut_eq h]
      show Ending.returned (.tuple #[.string (gtx G), .string (gtx X), .string (gtx Y), .int .i64 0]) = _
      rw [show gtx G = txt G from (tx_txt f1), show gtx X = txt X from (tx_txt f2), show gtx Y = txt Y from (tx_txt f3), hs, ht', hu]
    · exact absurd ⟨⟨_, hS⟩, _, hT⟩ hn
end Go.Proofs.YtbjgpbdkofadiaaGreatDoor

