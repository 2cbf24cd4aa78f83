/- A region that draws its order, by what holds whatever has come up: one look at each operation. -/
import Derived.RegionTactic
namespace Go.Proofs.YtekbfommnmikbaaGreatDoor
set_option linter.unusedVariables false
set_option linter.unusedSimpArgs false

section
variable {P : Program} {ops : Array Oper} {Q : Exit → Act → World → Prop}

/-- What operation i waits for. -/
def predsOf (ops : Array Oper) (i : Nat) : List Nat := match ops[i]? with
  | some o => (o.after.toList.filter (Region.binds .any)).map (·.on)
  | none => []
/-- Each operation waits for earlier ones alone. -/
def backward (ops : Array Oper) : Bool := (List.range ops.size).all fun i => (predsOf ops i).all fun j => decide (j < i)

theorem pred_mem {i : Nat} {o : Oper} (ho : ops[i]? = some o) {e : Edge} (he : e ∈ o.after) (hb : Region.binds .any e = true) : e.on ∈ predsOf ops i := by
  unfold predsOf
  rw [ho]
  exact List.mem_map.2 ⟨e, List.mem_filter.2 ⟨by simpa using he, hb⟩, rfl⟩

theorem ready_nil {l : Array Bool} (hb : backward ops = true) (hr : Region.ready .any ops l = []) : ∀ i, i < ops.size → l.getD i true = true := by
  intro i
  induction i using Nat.strongRecOn with
  | _ i ih =>
    intro hi
    cases hl : l.getD i true with
    | true => rfl
    | false =>
      exfalso
      have hm : i ∈ Region.ready .any ops l := by
        refine mem_ready.2 ⟨hl, ops[i], by rw [Array.getElem?_eq_getElem hi], fun e he hbd => ?_⟩
        have hp := pred_mem (Array.getElem?_eq_getElem hi) he hbd
        have hlt : e.on < i := by
          have h1 := List.all_eq_true.1 hb i (List.mem_range.2 hi)
          exact of_decide_eq_true (List.all_eq_true.1 h1 _ hp)
        have h2 := ih _ hlt (by omega)
        by_cases hs : e.on < l.size
        · simp [hs] at h2 ⊢; exact h2
        · exfalso
          have : i < l.size ∨ ¬ i < l.size := Nat.lt_or_ge i l.size |>.imp id Nat.not_lt.2
          rcases this with h | h
          · omega
          · simp [h] at hl
      rw [hr] at hm
      cases hm

/-- Step p i, p (i+1), .. -/
def AllFrom (p : Nat → Prop) : Nat → Nat → Prop
  | _, 0 => True
  | i, n + 1 => p i ∧ AllFrom p (i + 1) n
theorem AllFrom.get {p : Nat → Prop} : ∀ (n i : Nat), AllFrom p i n → ∀ j, i ≤ j → j < i + n → p j
  | 0, _, _, _, h1, h2 => by omega
  | n + 1, i, h, j, h1, h2 => by
    by_cases e : j = i
    · subst e; exact h.1
    · exact AllFrom.get n (i + 1) h.2 j (by omega) (by omega)

theorem count_set {l : Array Bool} {i : Nat} (h : l.getD i true = false) : (l.setIfInBounds i true).toList.count false + 1 = l.toList.count false := by
  have hi : i < l.size := by
    rcases Nat.lt_or_ge i l.size with h' | h'
    · exact h'
    · simp [Array.getElem?_eq_none h'] at h
  have hv : l.toList[i]'(by simpa using hi) = false := by simpa [hi] using h
  have h1 : 0 < l.toList.count false := List.count_pos_iff.2 (hv ▸ List.getElem_mem _)
  have h2 : (l.setIfInBounds i true).toList.count false = l.toList.count false - 1 := by
    rw [Array.toList_setIfInBounds, List.count_set (by simpa using hi), hv]
    rfl
  omega

theorem wpAny_inv (I : Array Bool → Act → World → Prop) (hb : backward ops = true)
    (hs : ∀ i, i < ops.size → ∀ l a w, I l a w → (∀ j, (predsOf ops i).contains j = true → l.getD j false = true) → l.getD i true = false → wpOp P ops Q i (I (l.setIfInBounds i true)) a w)
    (he : ∀ l a w, (∀ i, i < ops.size → l.getD i false = true) → I l a w → Q .normal a w) :
    ∀ (fuel : Nat) (l : Array Bool) (a : Act) (w : World), l.size = ops.size → l.toList.count false ≤ fuel → I l a w → wpAny P .any ops Q fuel l a w := by
  intro fuel
  have hall : ∀ (l : Array Bool), l.size = ops.size → Region.ready .any ops l = [] → ∀ i, i < ops.size → l.getD i false = true := by
    intro l hl hr i hi
    have := ready_nil hb hr i hi
    simp [hl, hi] at this ⊢
    exact this
  induction fuel with
  | zero =>
    intro l a w hl hc hI
    have hr : Region.ready .any ops l = [] := by
      cases hr : Region.ready .any ops l with
      | nil => rfl
      | cons i t =>
        exfalso
        have hm : i ∈ Region.ready .any ops l := by rw [hr]; exact List.mem_cons_self
        have := count_set (mem_ready.1 hm).1
        omega
    exact ⟨hr, he l a w (hall l hl hr) hI⟩
  | succ fuel ih =>
    intro l a w hl hc hI
    refine ⟨fun hr => he l a w (hall l hl hr) hI, fun i hi => ?_⟩
    obtain ⟨h0, o, ho, hp⟩ := mem_ready.1 hi
    have hlt : i < ops.size := (Array.getElem?_eq_some_iff.1 ho).1
    refine wpOp_mono (fun a' w' h' => ih _ a' w' (by simpa using hl) (by have := count_set h0; omega) h') (hs i hlt l a w hI (fun j hj => ?_) h0)
    have hj' : j ∈ predsOf ops i := by simpa using hj
    unfold predsOf at hj'
    rw [ho] at hj'
    obtain ⟨e, he1, rfl⟩ := List.mem_map.1 hj'
    obtain ⟨he2, he3⟩ := List.mem_filter.1 he1
    exact hp e (by simpa using he2) he3

/-- One operation's duty. -/
def OpStep (P : Program) (ops : Array Oper) (Q : Exit → Act → World → Prop) (I : Array Bool → Act → World → Prop) (i : Nat) : Prop :=
  ∀ l a w, I l a w → (∀ j, (predsOf ops i).contains j = true → l.getD j false = true) → l.getD i true = false → wpOp P ops Q i (I (l.setIfInBounds i true)) a w

/-- A region that draws its order: each operation keeps what holds. -/
theorem wp_region_inv {id : Nat} {a : Act} {w : World} (I : Array Bool → Act → World → Prop) (n : Nat) (hn : ops.size = n)
    (hm : P.follows .mixedOrders = true) (hb : backward ops = true)
    (h0 : I (Array.replicate n false) a w.drew)
    (he : ∀ l a w, (∀ i, i < n → l.getD i false = true) → I l a w → Q .normal a w)
    (hs : AllFrom (OpStep P ops Q I) 0 n) : (Code.region id ops true).wp P Q a w := by
  subst hn
  refine wp_region_any hm (wpAny_inv I hb (fun i hi => AllFrom.get _ _ hs i (Nat.zero_le _) (by omega)) he _ _ _ _ (by simp) ?_ h0)
  refine Nat.le_trans List.count_le_length ?_
  simp

/-- An operation's duty, step by step. -/
theorem opStep {I : Array Bool → Act → World → Prop} {i : Nat} {o : Oper} (ho : ops[i]? = some o)
    (h : ∀ l a w, I l a w → (∀ j, (predsOf ops i).contains j = true → l.getD j false = true) → l.getD i true = false →
      ∀ K : Act → World → Prop, (∀ a w, I (l.setIfInBounds i true) a w → K a w) → if Region.wanted o (yielded ops a.tmps) = true then Oper.wp P o a w K Q else K (a.put o.dst undef) w) : OpStep P ops Q I i :=
  fun l a w hI hp hl => wpOp_step ho (h l a w hI hp hl)

/-- The temporaries of a region, by their numbers. -/
def At (a0 : Act) (ds : List Nat) (us : Nat → Value) : Act := { a0 with tmps := ds.foldl (fun t d => t.setIfInBounds d (us d)) a0.tmps }
/-- One of them turned. -/
def upd (us : Nat → Value) (d : Nat) (v : Value) : Nat → Value := fun t => if t = d then v else us t
theorem upd_same (us : Nat → Value) (d : Nat) (v : Value) : upd us d v d = v := if_pos rfl
theorem upd_ne (us : Nat → Value) {d t : Nat} (v : Value) (h : t ≠ d) : upd us d v t = us t := if_neg h
theorem at_self (a0 : Act) : ∀ ds : List Nat, At a0 ds (fun t => a0.tmps.getD t undef) = a0
  | [] => rfl
  | d :: ds => by
    have h : a0.tmps.setIfInBounds d (a0.tmps.getD d undef) = a0.tmps := by
      by_cases hd : d < a0.tmps.size
      · refine Array.ext (by simp) fun i h1 h2 => ?_
        by_cases hi : d = i
        · subst hi; simp [h2]
        · rw [Array.getElem_setIfInBounds_ne h2 hi]
      · rw [Array.setIfInBounds_eq_of_size_le (by omega)]
    have ih := at_self a0 ds
    unfold At at ih ⊢
    rw [List.foldl_cons, h]
    exact ih
/-- The same, the temporaries by their numbers. -/
theorem wp_region_at {id : Nat} {a0 : Act} {w : World} (ds : List Nat) (J : Array Bool → (Nat → Value) → World → Prop) (n : Nat) (hn : ops.size = n)
    (hm : P.follows .mixedOrders = true) (hb : backward ops = true)
    (h0 : ∀ us, J (Array.replicate n false) us w.drew)
    (he : ∀ l us w, (∀ i, i < n → l.getD i false = true) → J l us w → Q .normal (At a0 ds us) w)
    (hs : AllFrom (OpStep P ops Q (fun l a w => ∃ us, a = At a0 ds us ∧ J l us w)) 0 n) : (Code.region id ops true).wp P Q a0 w :=
  wp_region_inv (fun l a w => ∃ us, a = At a0 ds us ∧ J l us w) n hn hm hb ⟨_, (at_self a0 ds).symm, h0 _⟩ (fun l a w hl ⟨us, e, hJ⟩ => e ▸ he l us w hl hJ) hs
/-- A goal that nothing looks into. -/
structure Duty (p : Prop) : Prop where
  out : p
def nthOp : List Oper → Nat → Option Oper
  | [], _ => none
  | o :: _, 0 => some o
  | _ :: t, i + 1 => nthOp t i
theorem nthOp_eq : ∀ (l : List Oper) (i : Nat), nthOp l i = l[i]?
  | [], _ => by simp [nthOp]
  | o :: _, 0 => by simp [nthOp]
  | _ :: t, i + 1 => by simp [nthOp, nthOp_eq t i]
theorem opAt {J : Array Bool → (Nat → Value) → World → Prop} {a0 : Act} {ds : List Nat} {i : Nat} {o : Oper} (ho : nthOp ops.toList i = some o)
    (h : ∀ l us w, J l us w → (∀ j, (predsOf ops i).contains j = true → l.getD j false = true) → l.getD i true = false →
      ∀ K : Act → World → Prop, (∀ us w, J (l.setIfInBounds i true) us w → K (At a0 ds us) w) → Duty (if Region.wanted o (yielded ops (At a0 ds us).tmps) = true then Oper.wp P o (At a0 ds us) w K Q else K ((At a0 ds us).put o.dst undef) w)) :
    OpStep P ops Q (fun l a w => ∃ us, a = At a0 ds us ∧ J l us w) i :=
  opStep (by rw [← ho, nthOp_eq, Array.getElem?_toList]) fun l a w ⟨us, e, hJ⟩ hp hl K hK => by subst e; exact (h l us w hJ hp hl K fun us w hJ => hK _ _ ⟨us, rfl, hJ⟩).out
theorem upd_self {us : Nat → Value} {d : Nat} {v : Value} (h : us d = v) : upd us d v = us := by
  funext t
  by_cases e : t = d
  · subst e; rw [upd_same, h]
  · rw [upd_ne us v e]
/-- What has been listed behind one more. -/
theorem listed_or {l : Array Bool} {i j : Nat} (h : (l.setIfInBounds i true).getD j false = true) : j = i ∨ l.getD j false = true := by
  by_cases e : j = i
  · exact .inl e
  · rw [getD_set_ne false (Ne.symm e)] at h; exact .inr h
theorem none_listed {n j : Nat} (h : (Array.replicate n false).getD j false = true) : False := by
  by_cases hj : j < n
  · simp [hj] at h
  · simp [hj] at h
theorem not_listed {l : Array Bool} {j : Nat} (h : l.getD j true = false) : ¬ l.getD j false = true := by
  intro h2
  by_cases hj : j < l.size
  · simp [hj] at h h2; rw [h] at h2; cases h2
  · simp [hj] at h
end
end Go.Proofs.YtekbfommnmikbaaGreatDoor
