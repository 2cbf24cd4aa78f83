/- Texts of this claim, merged: Inv, RegV, RegP, SpC, SpF, Ord, Mono, SpD, SpE. -/
import Derived.Test.YtekbfommnmikbaaGreatDoorQ7
import Derived.RegionTactic
import Derived.Deep.RegionLawGrows
/- A region that draws its order, by what holds whatever has come up: one look at each operation. -/
namespace Go.Proofs.YtekbfommnmikbaaGreatDoor
set_option linter.unusedVariables false
set_option linter.unusedSimpArgs false

section
variable {P : Program} {ops : Array Oper} {Q : Exit → Act → World → Prop}

/-- What operation i waits for. -/
def predsOf (ops : Array Oper) (i : Nat) : List Nat := match ops[i]? with
  | some o => (o.after.toList.filter (Region.binds .any)).map (·.on)
  | none => []
/-- Each operation waits for earlier ones alone. -/
def backward (ops : Array Oper) : Bool := (List.range ops.size).all fun i => (predsOf ops i).all fun j => decide (j < i)

theorem pred_mem {i : Nat} {o : Oper} (ho : ops[i]? = some o) {e : Edge} (he : e ∈ o.after) (hb : Region.binds .any e = true) : e.on ∈ predsOf ops i := by
  unfold predsOf
  rw [ho]
  exact List.mem_map.2 ⟨e, List.mem_filter.2 ⟨by simpa using he, hb⟩, rfl⟩

theorem ready_nil {l : Array Bool} (hb : backward ops = true) (hr : Region.ready .any ops l = []) : ∀ i, i < ops.size → l.getD i true = true := by
  intro i
  induction i using Nat.strongRecOn with
  | _ i ih =>
    intro hi
    cases hl : l.getD i true with
    | true => rfl
    | false =>
      exfalso
      have hm : i ∈ Region.ready .any ops l := by
        refine mem_ready.2 ⟨hl, ops[i], by rw [Array.getElem?_eq_getElem hi], fun e he hbd => ?_⟩
        have hp := pred_mem (Array.getElem?_eq_getElem hi) he hbd
        have hlt : e.on < i := by
          have h1 := List.all_eq_true.1 hb i (List.mem_range.2 hi)
          exact of_decide_eq_true (List.all_eq_true.1 h1 _ hp)
        have h2 := ih _ hlt (by omega)
        by_cases hs : e.on < l.size
        · simp [hs] at h2 ⊢; exact h2
        · exfalso
          have : i < l.size ∨ ¬ i < l.size := Nat.lt_or_ge i l.size |>.imp id Nat.not_lt.2
          rcases this with h | h
          · omega
          · simp [h] at hl
      rw [hr] at hm
      cases hm

/-- Step p i, p (i+1), .. -/
def AllFrom (p : Nat → Prop) : Nat → Nat → Prop
  | _, 0 => True
  | i, n + 1 => p i ∧ AllFrom p (i + 1) n
theorem AllFrom.get {p : Nat → Prop} : ∀ (n i : Nat), AllFrom p i n → ∀ j, i ≤ j → j < i + n → p j
  | 0, _, _, _, h1, h2 => by omega
  | n + 1, i, h, j, h1, h2 => by
    by_cases e : j = i
    · subst e; exact h.1
    · exact AllFrom.get n (i + 1) h.2 j (by omega) (by omega)

theorem count_set {l : Array Bool} {i : Nat} (h : l.getD i true = false) : (l.setIfInBounds i true).toList.count false + 1 = l.toList.count false := by
  have hi : i < l.size := by
    rcases Nat.lt_or_ge i l.size with h' | h'
    · exact h'
    · simp [Array.getElem?_eq_none h'] at h
  have hv : l.toList[i]'(by simpa using hi) = false := by simpa [hi] using h
  have h1 : 0 < l.toList.count false := List.count_pos_iff.2 (hv ▸ List.getElem_mem _)
  have h2 : (l.setIfInBounds i true).toList.count false = l.toList.count false - 1 := by
    rw [Array.toList_setIfInBounds, List.count_set (by simpa using hi), hv]
    rfl
  omega

theorem wpAny_inv (I : Array Bool → Act → World → Prop) (hb : backward ops = true)
    (hs : ∀ i, i < ops.size → ∀ l a w, I l a w → (∀ j, (predsOf ops i).contains j = true → l.getD j false = true) → l.getD i true = false → wpOp P ops Q i (I (l.setIfInBounds i true)) a w)
    (he : ∀ l a w, (∀ i, i < ops.size → l.getD i false = true) → I l a w → Q .normal a w) :
    ∀ (fuel : Nat) (l : Array Bool) (a : Act) (w : World), l.size = ops.size → l.toList.count false ≤ fuel → I l a w → wpAny P .any ops Q fuel l a w := by
  intro fuel
  have hall : ∀ (l : Array Bool), l.size = ops.size → Region.ready .any ops l = [] → ∀ i, i < ops.size → l.getD i false = true := by
    intro l hl hr i hi
    have := ready_nil hb hr i hi
    simp [hl, hi] at this ⊢
    exact this
  induction fuel with
  | zero =>
    intro l a w hl hc hI
    have hr : Region.ready .any ops l = [] := by
      cases hr : Region.ready .any ops l with
      | nil => rfl
      | cons i t =>
        exfalso
        have hm : i ∈ Region.ready .any ops l := by rw [hr]; exact List.mem_cons_self
        have := count_set (mem_ready.1 hm).1
        omega
    exact ⟨hr, he l a w (hall l hl hr) hI⟩
  | succ fuel ih =>
    intro l a w hl hc hI
    refine ⟨fun hr => he l a w (hall l hl hr) hI, fun i hi => ?_⟩
    obtain ⟨h0, o, ho, hp⟩ := mem_ready.1 hi
    have hlt : i < ops.size := (Array.getElem?_eq_some_iff.1 ho).1
    refine wpOp_mono (fun a' w' h' => ih _ a' w' (by simpa using hl) (by have := count_set h0; omega) h') (hs i hlt l a w hI (fun j hj => ?_) h0)
    have hj' : j ∈ predsOf ops i := by simpa using hj
    unfold predsOf at hj'
    rw [ho] at hj'
    obtain ⟨e, he1, rfl⟩ := List.mem_map.1 hj'
    obtain ⟨he2, he3⟩ := List.mem_filter.1 he1
    exact hp e (by simpa using he2) he3

/-- One operation's duty. -/
def OpStep (P : Program) (ops : Array Oper) (Q : Exit → Act → World → Prop) (I : Array Bool → Act → World → Prop) (i : Nat) : Prop :=
  ∀ l a w, I l a w → (∀ j, (predsOf ops i).contains j = true → l.getD j false = true) → l.getD i true = false → wpOp P ops Q i (I (l.setIfInBounds i true)) a w

/-- A region that draws its order: each operation keeps what holds. -/
theorem wp_region_inv {id : Nat} {a : Act} {w : World} (I : Array Bool → Act → World → Prop) (n : Nat) (hn : ops.size = n)
    (hm : P.follows .mixedOrders = true) (hb : backward ops = true)
    (h0 : I (Array.replicate n false) a w.drew)
    (he : ∀ l a w, (∀ i, i < n → l.getD i false = true) → I l a w → Q .normal a w)
    (hs : AllFrom (OpStep P ops Q I) 0 n) : (Code.region id ops true).wp P Q a w := by
  subst hn
  refine wp_region_any hm (wpAny_inv I hb (fun i hi => AllFrom.get _ _ hs i (Nat.zero_le _) (by omega)) he _ _ _ _ (by simp) ?_ h0)
  refine Nat.le_trans List.count_le_length ?_
  simp

/-- An operation's duty, step by step. -/
theorem opStep {I : Array Bool → Act → World → Prop} {i : Nat} {o : Oper} (ho : ops[i]? = some o)
    (h : ∀ l a w, I l a w → (∀ j, (predsOf ops i).contains j = true → l.getD j false = true) → l.getD i true = false →
      ∀ K : Act → World → Prop, (∀ a w, I (l.setIfInBounds i true) a w → K a w) → if Region.wanted o (yielded ops a.tmps) = true then Oper.wp P o a w K Q else K (a.put o.dst undef) w) : OpStep P ops Q I i :=
  fun l a w hI hp hl => wpOp_step ho (h l a w hI hp hl)

/-- The temporaries of a region, by their numbers. -/
def At (a0 : Act) (ds : List Nat) (us : Nat → Value) : Act := { a0 with tmps := ds.foldl (fun t d => t.setIfInBounds d (us d)) a0.tmps }
/-- One of them turned. -/
def upd (us : Nat → Value) (d : Nat) (v : Value) : Nat → Value := fun t => if t = d then v else us t
theorem upd_same (us : Nat → Value) (d : Nat) (v : Value) : upd us d v d = v := if_pos rfl
theorem upd_ne (us : Nat → Value) {d t : Nat} (v : Value) (h : t ≠ d) : upd us d v t = us t := if_neg h
theorem at_self (a0 : Act) : ∀ ds : List Nat, At a0 ds (fun t => a0.tmps.getD t undef) = a0
  | [] => rfl
  | d :: ds => by
    have h : a0.tmps.setIfInBounds d (a0.tmps.getD d undef) = a0.tmps := by
      by_cases hd : d < a0.tmps.size
      · refine Array.ext (by simp) fun i h1 h2 => ?_
        by_cases hi : d = i
        · subst hi; simp [h2]
        · rw [Array.getElem_setIfInBounds_ne h2 hi]
      · rw [Array.setIfInBounds_eq_of_size_le (by omega)]
    have ih := at_self a0 ds
    unfold At at ih ⊢
    rw [List.foldl_cons, h]
    exact ih
/-- The same, the temporaries by their numbers. -/
theorem wp_region_at {id : Nat} {a0 : Act} {w : World} (ds : List Nat) (J : Array Bool → (Nat → Value) → World → Prop) (n : Nat) (hn : ops.size = n)
    (hm : P.follows .mixedOrders = true) (hb : backward ops = true)
    (h0 : ∀ us, J (Array.replicate n false) us w.drew)
    (he : ∀ l us w, (∀ i, i < n → l.getD i false = true) → J l us w → Q .normal (At a0 ds us) w)
    (hs : AllFrom (OpStep P ops Q (fun l a w => ∃ us, a = At a0 ds us ∧ J l us w)) 0 n) : (Code.region id ops true).wp P Q a0 w :=
  wp_region_inv (fun l a w => ∃ us, a = At a0 ds us ∧ J l us w) n hn hm hb ⟨_, (at_self a0 ds).symm, h0 _⟩ (fun l a w hl ⟨us, e, hJ⟩ => e ▸ he l us w hl hJ) hs
/-- A goal that nothing looks into. -/
structure Duty (p : Prop) : Prop where
  out : p
def nthOp : List Oper → Nat → Option Oper
  | [], _ => none
  | o :: _, 0 => some o
  | _ :: t, i + 1 => nthOp t i
theorem nthOp_eq : ∀ (l : List Oper) (i : Nat), nthOp l i = l[i]?
  | [], _ => by simp [nthOp]
  | o :: _, 0 => by simp [nthOp]
  | _ :: t, i + 1 => by simp [nthOp, nthOp_eq t i]
theorem opAt {J : Array Bool → (Nat → Value) → World → Prop} {a0 : Act} {ds : List Nat} {i : Nat} {o : Oper} (ho : nthOp ops.toList i = some o)
    (h : ∀ l us w, J l us w → (∀ j, (predsOf ops i).contains j = true → l.getD j false = true) → l.getD i true = false →
      ∀ K : Act → World → Prop, (∀ us w, J (l.setIfInBounds i true) us w → K (At a0 ds us) w) → Duty (if Region.wanted o (yielded ops (At a0 ds us).tmps) = true then Oper.wp P o (At a0 ds us) w K Q else K ((At a0 ds us).put o.dst undef) w)) :
    OpStep P ops Q (fun l a w => ∃ us, a = At a0 ds us ∧ J l us w) i :=
  opStep (by rw [← ho, nthOp_eq, Array.getElem?_toList]) fun l a w ⟨us, e, hJ⟩ hp hl K hK => by subst e; exact (h l us w hJ hp hl K fun us w hJ => hK _ _ ⟨us, rfl, hJ⟩).out
theorem upd_self {us : Nat → Value} {d : Nat} {v : Value} (h : us d = v) : upd us d v = us := by
  funext t
  by_cases e : t = d
  · subst e; rw [upd_same, h]
  · rw [upd_ne us v e]
/-- What has been listed behind one more. -/
theorem listed_or {l : Array Bool} {i j : Nat} (h : (l.setIfInBounds i true).getD j false = true) : j = i ∨ l.getD j false = true := by
  by_cases e : j = i
  · exact .inl e
  · rw [getD_set_ne false (Ne.symm e)] at h; exact .inr h
theorem none_listed {n j : Nat} (h : (Array.replicate n false).getD j false = true) : False := by
  by_cases hj : j < n
  · simp [hj] at h
  · simp [hj] at h
theorem not_listed {l : Array Bool} {j : Nat} (h : l.getD j true = false) : ¬ l.getD j false = true := by
  intro h2
  by_cases hj : j < l.size
  · simp [hj] at h h2; rw [h] at h2; cases h2
  · simp [hj] at h
end
end Go.Proofs.YtekbfommnmikbaaGreatDoor
/- A region that draws its order, whose operations have values that are known ahead, and leave what was there. -/
namespace Go.Proofs.YtekbfommnmikbaaGreatDoor
set_option linter.unusedVariables false
set_option linter.unusedSimpArgs false
open Go.RowKit

/-- What holds while such a region runs. -/
structure Jv (W : World) (ds : List Nat) (vs : List Value) (l : Array Bool) (us : Nat → Value) (w : World) : Prop where
  below : Below W.heap.size W w
  val : ∀ i, i < ds.length → l.getD i false = true → us (ds.getD i 0) = vs.getD i undef
theorem Jv.start {W : World} {ds : List Nat} {vs : List Value} {n : Nat} (us : Nat → Value) : Jv W ds vs (Array.replicate n false) us W.drew :=
  ⟨(Below.refl _ _).drew, fun i _ h => (none_listed h).elim⟩
theorem Jv.step {W w w' : World} {ds : List Nat} {vs : List Value} {l : Array Bool} {us : Nat → Value} (h : Jv W ds vs l us w) (hb : Below w.heap.size w w') (i d : Nat) (v : Value) (hi : ds.getD i 0 = d) (hv : vs.getD i undef = v) (hn : ∀ j, j < ds.length → ds.getD j 0 = d → j = i) :
    Jv W ds vs (l.setIfInBounds i true) (upd us d v) w' := by
  refine ⟨h.below.trans (hb.mono h.below.size), fun j hj hl => ?_⟩
  by_cases e : j = i
  · subst e; rw [hi, upd_same, hv]
  · rw [upd_ne us v (fun e2 => e (hn j hj e2))]
    rcases listed_or hl with h1 | h1
    · exact absurd h1 e
    · exact h.val j hj h1
/-- Slots that are all different. -/
def distinct (ds : List Nat) : Bool := (List.range ds.length).all fun i => (List.range ds.length).all fun j => decide (ds.getD j 0 = ds.getD i 0 → j = i)
theorem distinct_at {ds : List Nat} (h : distinct ds = true) {i : Nat} (hi : i < ds.length) : ∀ j, j < ds.length → ds.getD j 0 = ds.getD i 0 → j = i := fun j hj e => by
  have h1 := List.all_eq_true.1 h i (List.mem_range.2 hi)
  have h2 := List.all_eq_true.1 h1 j (List.mem_range.2 hj)
  exact of_decide_eq_true h2 e
theorem Jv.go {W w w' : World} {ds : List Nat} {vs : List Value} {l : Array Bool} {us : Nat → Value} (h : Jv W ds vs l us w) (hd : distinct ds = true) (hb : Below w.heap.size w w') (i : Nat) (hi : i < ds.length) :
    Jv W ds vs (l.setIfInBounds i true) (upd us (ds.getD i 0) (vs.getD i undef)) w' := h.step hb i _ _ rfl rfl (distinct_at hd hi)
end Go.Proofs.YtekbfommnmikbaaGreatDoor
/- A region that draws its order, whose operations have values of which something is known, and leave what was there; at its end there may be a store. -/
namespace Go.Proofs.YtekbfommnmikbaaGreatDoor
set_option linter.unusedVariables false
set_option linter.unusedSimpArgs false
open Go.RowKit

/-- What waits for what. -/
def covers (ops : Array Oper) : Nat → List Nat → List Nat
  | 0, s => s
  | k + 1, s => covers ops k ((s ++ s.flatMap (predsOf ops)).eraseDups)
theorem covers_listed {ops : Array Oper} {l : Array Bool} (hcl : ∀ i j, l.getD i false = true → (predsOf ops i).contains j = true → l.getD j false = true) : ∀ (k : Nat) (s : List Nat), (∀ i, i ∈ s → l.getD i false = true) → ∀ i, i ∈ covers ops k s → l.getD i false = true
  | 0, s, h, i, hi => h i hi
  | k + 1, s, h, i, hi => by
    refine covers_listed hcl k _ (fun j hj => ?_) i hi
    rw [List.mem_eraseDups] at hj
    rcases List.mem_append.1 hj with h1 | h1
    · exact h j h1
    · obtain ⟨q, hq1, hq2⟩ := List.mem_flatMap.1 h1
      exact hcl q j (h q hq1) (by simpa using hq2)
/-- All operations but the last one are waited for by it. -/
def lastly (ops : Array Oper) (f : Nat) : Bool := (List.range ops.size).all fun j => (covers ops ops.size (predsOf ops f)).contains j || decide (j = f)

/-- Known things stay. -/
def StableL : List (World → Value → Prop) → Prop
  | [] => True
  | p :: t => (∀ (w w' : World) (v : Value), Below w.heap.size w w' → p w v → p w' v) ∧ StableL t
theorem StableL.get : ∀ {Ps : List (World → Value → Prop)}, StableL Ps → ∀ (i : Nat) {w w' : World} {v : Value}, Below w.heap.size w w' → (Ps.getD i (fun _ _ => True)) w v → (Ps.getD i (fun _ _ => True)) w' v
  | [], _, _, _, _, _, _, _ => by simp
  | p :: t, h, 0, w, w', v, hb, hp => h.1 w w' v hb hp
  | p :: t, h, i + 1, w, w', v, hb, hp => StableL.get h.2 i hb hp

/-- What holds while such a region runs. f: the store at the end (or the number of operations, if there is none). -/
structure Jp (ops : Array Oper) (W : World) (sl : List Nat) (Ps : List (World → Value → Prop)) (f : Nat) (Fin : (Nat → Value) → World → Prop) (l : Array Bool) (us : Nat → Value) (w : World) : Prop where
  size : l.size = ops.size
  cl : ∀ i j, l.getD i false = true → (predsOf ops i).contains j = true → l.getD j false = true
  below : l.getD f false = false → Below W.heap.size W w
  val : l.getD f false = false → ∀ i, i < sl.length → l.getD i false = true → (Ps.getD i (fun _ _ => True)) w (us (sl.getD i 0))
  fin : l.getD f false = true → (∀ j, j < ops.size → l.getD j false = true) ∧ Fin us w
theorem Jp.start {ops : Array Oper} {W : World} {sl : List Nat} {Ps : List (World → Value → Prop)} {f : Nat} {Fin : (Nat → Value) → World → Prop} (us : Nat → Value) : Jp ops W sl Ps f Fin (Array.replicate ops.size false) us W.drew :=
  ⟨by simp, fun i j h => (none_listed h).elim, fun _ => (Below.refl _ _).drew, fun _ i _ h => (none_listed h).elim, fun h => (none_listed h).elim⟩
theorem Jp.live {ops : Array Oper} {W w : World} {sl : List Nat} {Ps : List (World → Value → Prop)} {f i : Nat} {Fin : (Nat → Value) → World → Prop} {l : Array Bool} {us : Nat → Value} (h : Jp ops W sl Ps f Fin l us w) (hl : l.getD i true = false) (hi : i < ops.size) : l.getD f false = false := by
  cases hf : l.getD f false with
  | false => rfl
  | true => exact absurd ((h.fin hf).1 i hi) (not_listed hl)
theorem listed_set {l : Array Bool} {i j : Nat} (h : l.getD j false = true) : (l.setIfInBounds i true).getD j false = true := by
  by_cases e : i = j
  · subst e
    by_cases hi : i < l.size
    · simp [hi]
    · simp [hi] at h
  · rw [getD_set_ne false e]; exact h
theorem listed_now {l : Array Bool} {i : Nat} (h : l.getD i true = false) : (l.setIfInBounds i true).getD i false = true := by
  by_cases hi : i < l.size
  · simp [hi]
  · simp [hi] at h
theorem Jp.cl_set {ops : Array Oper} {l : Array Bool} {i : Nat} (hcl : ∀ i j, l.getD i false = true → (predsOf ops i).contains j = true → l.getD j false = true) (hp : ∀ j, (predsOf ops i).contains j = true → l.getD j false = true) :
    ∀ a j, (l.setIfInBounds i true).getD a false = true → (predsOf ops a).contains j = true → (l.setIfInBounds i true).getD j false = true := by
  intro a j ha hj
  rcases listed_or ha with rfl | h1
  · exact listed_set (hp j hj)
  · exact listed_set (hcl a j h1 hj)
theorem Jp.go {ops : Array Oper} {W w w' : World} {sl : List Nat} {Ps : List (World → Value → Prop)} {f : Nat} {Fin : (Nat → Value) → World → Prop} {l : Array Bool} {us : Nat → Value} (h : Jp ops W sl Ps f Fin l us w) (hst : StableL Ps) (hd : distinct sl = true) (i : Nat) (hf : l.getD f false = false) (hif : i ≠ f) (hi : i < sl.length) (hp : ∀ j, (predsOf ops i).contains j = true → l.getD j false = true) (hb : Below w.heap.size w w') (v : Value) (hv : (Ps.getD i (fun _ _ => True)) w' v) :
    Jp ops W sl Ps f Fin (l.setIfInBounds i true) (upd us (sl.getD i 0) v) w' := by
  have hf2 : (l.setIfInBounds i true).getD f false = false := by rw [getD_set_ne false hif]; exact hf
  refine ⟨by rw [Array.size_setIfInBounds]; exact h.size, Jp.cl_set h.cl hp, fun _ => (h.below hf).trans (hb.mono (h.below hf).size), fun _ j hj hl => ?_, fun e => by rw [hf2] at e; cases e⟩
  by_cases e : j = i
  · subst e; rw [upd_same]; exact hv
  · rw [upd_ne us v (fun e2 => e (distinct_at hd hi j hj e2))]
    rcases listed_or hl with h1 | h1
    · exact absurd h1 e
    · exact hst.get j hb (h.val hf j hj h1)
/-- The store at the end. -/
theorem Jp.store {ops : Array Oper} {W w w' : World} {sl : List Nat} {Ps : List (World → Value → Prop)} {f : Nat} {Fin : (Nat → Value) → World → Prop} {l : Array Bool} {us : Nat → Value} (h : Jp ops W sl Ps f Fin l us w) (hc : lastly ops f = true) (hl : l.getD f true = false) (hp : ∀ j, (predsOf ops f).contains j = true → l.getD j false = true) (hF : Fin us w') :
    Jp ops W sl Ps f Fin (l.setIfInBounds f true) us w' := by
  have hn := listed_now hl
  have hall : ∀ j, j < ops.size → (l.setIfInBounds f true).getD j false = true := by
    intro j hj
    have h1 := List.all_eq_true.1 hc j (List.mem_range.2 hj)
    rw [Bool.or_eq_true, decide_eq_true_iff] at h1
    rcases h1 with h1 | h1
    · refine listed_set (covers_listed h.cl _ _ (fun i hi => hp i (by simpa using hi)) j (by simpa using h1))
    · rw [h1]; exact hn
  exact ⟨by rw [Array.size_setIfInBounds]; exact h.size, Jp.cl_set h.cl hp, fun e => (by rw [hn] at e; cases e), fun e => (by rw [hn] at e; cases e), fun _ => ⟨hall, hF⟩⟩
/-- No store at the end. -/
theorem Jp.nofin {ops : Array Oper} {W w : World} {sl : List Nat} {Ps : List (World → Value → Prop)} {f : Nat} {Fin : (Nat → Value) → World → Prop} {l : Array Bool} {us : Nat → Value} (h : Jp ops W sl Ps f Fin l us w) (hf : ops.size = f) : l.getD f false = false := by
  have : ¬ f < l.size := by rw [h.size]; omega
  simp [this]
/-- At the end. -/
theorem Jp.ended {ops : Array Oper} {W w : World} {sl : List Nat} {Ps : List (World → Value → Prop)} {f n : Nat} {Fin : (Nat → Value) → World → Prop} {l : Array Bool} {us : Nat → Value} (h : Jp ops W sl Ps f Fin l us w) (hl : ∀ i, i < n → l.getD i false = true) (hf : f < n) : Fin us w := (h.fin (hl f hf)).2
/-- The region's law. -/
theorem wp_region_p {P : Program} {ops : Array Oper} {Q : Exit → Act → World → Prop} {id : Nat} {a0 : Act} {w : World} (ds sl : List Nat) (Ps : List (World → Value → Prop)) (f : Nat) (Fin : (Nat → Value) → World → Prop) (n : Nat) (hn : ops.size = n)
    (hm : P.follows .mixedOrders = true) (hb : backward ops = true)
    (he : ∀ l us w', (∀ i, i < n → l.getD i false = true) → Jp ops w sl Ps f Fin l us w' → Q .normal (At a0 ds us) w')
    (hs : AllFrom (OpStep P ops Q (fun l a w' => ∃ us, a = At a0 ds us ∧ Jp ops w sl Ps f Fin l us w')) 0 n) : (Code.region id ops true).wp P Q a0 w :=
  wp_region_at ds (Jp ops w sl Ps f Fin) n hn hm hb (fun us => by subst hn; exact Jp.start us) he hs
end Go.Proofs.YtekbfommnmikbaaGreatDoor
/- The reference of layer 2: numbers; Of, zeros, at, Order. -/
namespace Go.Proofs.YtekbfommnmikbaaGreatDoor
set_option linter.unusedVariables false
set_option linter.unusedSimpArgs false
open Go.RowKit Go.Shelf Go.Proofs
attribute [local go_sem ↓] Go.wp_at_zero Go.wp_at_succ

/-- v is the number z times 10 to the power of e. -/
def Dc (w : World) (v : Value) (z e : Int) : Prop := ∃ A n c b, v = .agg #[.slice A n c, .bool b, .int .i64 e] ∧ Ri w (.agg #[.slice A n c, .bool b]) z
theorem Dc.below {w w' : World} {v : Value} {z e : Int} (h : Dc w v z e) (hb : Below w.heap.size w w') : Dc w' v z e := by
  obtain ⟨A, n, c, b, h1, h2⟩ := h
  exact ⟨A, n, c, b, h1, h2.below hb⟩
/-- Digits lie in no box whose whole numbers are all 0. -/
theorem dg_off {w F : World} {v : Value} {n g : Nat} {cs : Array Value} {t : TypeId} {fz : Nat × Nat} (h : Dg 10 w v n) (hbox : w.heap[g]? = some (.cells cs t fz)) (hcs : ∀ (i : Nat) z, cs[i]? = some (.int .i64 z) → z = 0) (hF : ∀ k, k ≠ g → F.heap[k]? = w.heap[k]?) : Dg 10 F v n := by
  obtain ⟨A, c, rfl, h1, h2, hr⟩ := h
  by_cases h0 : dg 10 n = []
  · refine ⟨A, c, rfl, h1, h2, ?_⟩
    rw [h0]; exact Row.nil
  · refine Dg.same ⟨A, c, rfl, h1, h2, hr⟩ fun k hk => hF k fun e => ?_
    subst e
    have hl : 0 < (dg 10 n).length := List.length_pos_iff.2 h0
    obtain ⟨a, rfl, hc⟩ := hr ((dg 10 n).length - 1) (by omega)
    have hb : a.block = k := by simpa [Value.ownBlock] using hk
    unfold World.cell? at hc
    rw [show (a.add ((dg 10 n).length - 1)).block = k from (show (a.add ((dg 10 n).length - 1)).block = a.block by first | rfl | (cases a; rfl) | (cases a; simp only [Addr.add]; split <;> rfl)).trans hb, hbox] at hc
    simp only [] at hc
    split at hc
    · cases hc
    · have h3 := hcs _ _ hc
      have h4 := last_of_noTop (dg_noTop (b := 10) (by decide) n) ((dg 10 n).length - 1) (by omega)
      rw [List.getD_eq_getElem?_getD] at h4
      exact h4 h3
theorem zero_box3 : ∀ (i : Nat) z, (#[.slice none 0 0, .bool false, .int .i64 0] : Array Value)[i]? = some (.int .i64 z) → z = 0 := by
  intro i z hi
  match i with
  | 0 => simp at hi
  | 1 => simp at hi
  | 2 => simp at hi; exact hi.symm
  | i + 3 => simp at hi
/-- A number stored into a fresh box. -/
theorem dc_put {w : World} {g : Nat} {t : TypeId} {A : Option Addr} {n c : Nat} {b : Bool} {z e : Int} (h : Ri w (.agg #[.slice A n c, .bool b]) z) (hb : w.heap[g]? = some (.cells #[.slice none 0 0, .bool false, .int .i64 0] t (0, 0))) :
    ∃ F, ((w.setCell ⟨g, 0, none⟩ (.slice A n c)).setCell ⟨g, 1, none⟩ (.bool b)).setCell ⟨g, 2, none⟩ (.int .i64 e) = F ∧ F.cell? ⟨g, 0, none⟩ = some (.slice A n c) ∧ F.cell? ⟨g, 1, none⟩ = some (.bool b) ∧ F.cell? ⟨g, 2, none⟩ = some (.int .i64 e) ∧ Ri F (.agg #[.slice A n c, .bool b]) z ∧ (∀ k w0, k ≤ g → Below k w0 w → Below k w0 F) := by
  have h9 := putB (putB (putB hb 0 (.slice A n c)) 1 (.bool b)) 2 (.int .i64 e)
  have r0 := cell_of_heap h9 0; have r1 := cell_of_heap h9 1; have r2 := cell_of_heap h9 2
  simp at r0 r1 r2
  refine ⟨_, rfl, r0, r1, r2, ?_, fun k w0 hk hb => ((hb.setCell hk _).setCell hk _).setCell hk _⟩
  obtain ⟨p, e, hd⟩ := h
  exact ⟨p, e, dg_off hd hb zero_box3 fun k hk => by rw [Below.heap_setCell _ _ _ _ hk, Below.heap_setCell _ _ _ _ hk, Below.heap_setCell _ _ _ _ hk]⟩
theorem three_cells {w : World} {B : Nat} {x y z : Value} {t : TypeId} {fz : Nat × Nat} (h : w.heap[B]? = some (.cells #[x, y, z] t fz)) : w.cell? ⟨B, 0, none⟩ = some x ∧ w.cell? ⟨B, 1, none⟩ = some y ∧ w.cell? ⟨B, 2, none⟩ = some z := ⟨cell_of_heap h 0, cell_of_heap h 1, cell_of_heap h 2⟩

set_option maxRecDepth 100000 in
set_option maxHeartbeats 8000000 in
theorem sof_c (m e : Int) (w : World) (h0 : -9223372036854775808 ≤ m) (h1 : m ≤ 9223372036854775807) :
    Calls Tryz.prog 45 #[.agg #[.int .i64 m, .int .i64 e]] w fun en w' => ∃ v, en = .returned v ∧ Dc w' v m e ∧ Below w.heap.size w w' := by
  obtain ⟨W, hW, k0, k1, hbel, hsz⟩ := bx2h w #[.int .i64 m, .int .i64 e] #[.slice none 0 0, .bool false, .int .i64 0] 23 60
  obtain ⟨c0, c1⟩ := two_cells k0
  have HK1 := Lib.hid k1
  have HBEL := Lib.hid hbel
  have HOF := Lib.hid (fun w' => rof_c _ m w' (numL_int h0 h1))
  have HFI := Lib.hid (fun w' => rfromint_c m w' h0 h1)
  clear k0 k1 hbel
  go_enter Tryz.func45, Tryz.ntmps45
  go_upto_region 1 with fail
  go_cut [9] from 3 to 9 (fun v wx => ∃ A n c b, wx.cell? ⟨w.heap.size + 1, 0, none⟩ = some (.slice A n c) ∧ wx.cell? ⟨w.heap.size + 1, 1, none⟩ = some (.bool b) ∧ wx.cell? ⟨w.heap.size + 1, 2, none⟩ = some (.int .i64 e) ∧ Hid (Ri wx (.agg #[.slice A n c, .bool b]) m) ∧ Hid (Below w.heap.size w wx))
  case first =>
    have HSTL : StableL [(fun _ v => v = .pointer (some ⟨w.heap.size, 0, none⟩)), (fun _ v => v = .int .i64 m), (fun _ v => v = .string ⟨(Lib.itoa m).toArray⟩), (fun w v => Ri w v m), (fun _ v => v = .pointer (some ⟨w.heap.size, 1, none⟩)), (fun _ v => v = .int .i64 e), (fun w v => Dc w v m e), (fun _ _ => True)] := ⟨(fun _ _ _ _ h => h), (fun _ _ _ _ h => h), (fun _ _ _ _ h => h), (fun _ _ _ hb h => Ri.below h hb), (fun _ _ _ _ h => h), (fun _ _ _ _ h => h), (fun _ _ _ hb h => Dc.below h hb), (fun _ _ _ _ h => h), trivial⟩
    refine wp_region_p [3, 4, 5, 6, 7, 8, 9] [3, 4, 5, 6, 7, 8, 9, 1000] [(fun _ v => v = .pointer (some ⟨w.heap.size, 0, none⟩)), (fun _ v => v = .int .i64 m), (fun _ v => v = .string ⟨(Lib.itoa m).toArray⟩), (fun w v => Ri w v m), (fun _ v => v = .pointer (some ⟨w.heap.size, 1, none⟩)), (fun _ v => v = .int .i64 e), (fun w v => Dc w v m e), (fun _ _ => True)] 7 (fun _ wx => ∃ A n c b, wx.cell? ⟨w.heap.size + 1, 0, none⟩ = some (.slice A n c) ∧ wx.cell? ⟨w.heap.size + 1, 1, none⟩ = some (.bool b) ∧ wx.cell? ⟨w.heap.size + 1, 2, none⟩ = some (.int .i64 e) ∧ Hid (Ri wx (.agg #[.slice A n c, .bool b]) m) ∧ Hid (Below w.heap.size w wx)) 8 rfl (by kernel_rfl) (by kernel_rfl) ?_ ⟨?_, ?_, ?_, ?_, ?_, ?_, ?_, ?_, trivial⟩
    · intro l us wx hl hJ
      have HF := Lib.hid (hJ.ended hl (by decide))
      clear hl hJ
      simp only [At, List.foldl_cons, List.foldl_nil, List.setIfInBounds_toArray, List.set_cons_zero, List.set_cons_succ]
      go_wp2_with fail
      go_meet
      exact HF.out
    · refine opAt rfl ?_
      intro l us wx hJ hp hl K hK
      have HJ := Lib.hid hJ; have HP := Lib.hid hp; have HLI := Lib.hid hl; have HF := Lib.hid (hJ.live hl (by decide)); have HBX := Lib.hid (hJ.below HF.out); have HK := hK
      clear hJ hp hl hK
      simp only [At, List.foldl_cons, List.foldl_nil, List.setIfInBounds_toArray, List.set_cons_zero, List.set_cons_succ] at HK
      have HK := Lib.hid HK
      simp only [At, List.foldl_cons, List.foldl_nil, List.setIfInBounds_toArray, List.set_cons_zero, List.set_cons_succ]
      refine ⟨?_⟩
      go_simp
      exact HK.out (upd us 3 (.pointer (some ⟨w.heap.size, 0, none⟩))) wx (by exact HJ.out.go HSTL (by kernel_rfl) 0 HF.out (by decide) (by decide) HP.out (Below.refl _ _) (.pointer (some ⟨w.heap.size, 0, none⟩)) (rfl))
    · refine opAt rfl ?_
      intro l us wx hJ hp hl K hK
      have HJ := Lib.hid hJ; have HP := Lib.hid hp; have HLI := Lib.hid hl; have HF := Lib.hid (hJ.live hl (by decide)); have HBX := Lib.hid (hJ.below HF.out); have HK := hK
      clear hJ hp hl hK
      simp only [At, List.foldl_cons, List.foldl_nil, List.setIfInBounds_toArray, List.set_cons_zero, List.set_cons_succ] at HK
      have HK := Lib.hid HK
      have h3 : us 3 = .pointer (some ⟨w.heap.size, 0, none⟩) := HJ.out.val HF.out 0 (by decide) (HP.out 0 (by kernel_rfl))
      have c0 := keep_cell HBX.out c0
      simp only [At, List.foldl_cons, List.foldl_nil, List.setIfInBounds_toArray, List.set_cons_zero, List.set_cons_succ]
      refine ⟨?_⟩
      go_simp
      exact HK.out (upd (upd us 3 (.pointer (some ⟨w.heap.size, 0, none⟩))) 4 (.int .i64 m)) wx (by rw [upd_self h3]; exact HJ.out.go HSTL (by kernel_rfl) 1 HF.out (by decide) (by decide) HP.out (Below.refl _ _) (.int .i64 m) (rfl))
    · refine opAt rfl ?_
      intro l us wx hJ hp hl K hK
      have HJ := Lib.hid hJ; have HP := Lib.hid hp; have HLI := Lib.hid hl; have HF := Lib.hid (hJ.live hl (by decide)); have HBX := Lib.hid (hJ.below HF.out); have HK := hK
      clear hJ hp hl hK
      simp only [At, List.foldl_cons, List.foldl_nil, List.setIfInBounds_toArray, List.set_cons_zero, List.set_cons_succ] at HK
      have HK := Lib.hid HK
      have h4 : us 4 = .int .i64 m := HJ.out.val HF.out 1 (by decide) (HP.out 1 (by kernel_rfl))
      simp only [At, List.foldl_cons, List.foldl_nil, List.setIfInBounds_toArray, List.set_cons_zero, List.set_cons_succ]
      refine ⟨?_⟩
      go_simp
      go_wp2_with ((go_at_call 94; (with_reducible refine (HFI.out _).mono ?_); rintro en w9 ⟨rfl, hbz⟩; have HC := Lib.hid hbz; clear hbz))
      exact HK.out (upd (upd us 4 (.int .i64 m)) 5 (.string ⟨(Lib.itoa m).toArray⟩)) w9 (by rw [upd_self h4]; exact HJ.out.go HSTL (by kernel_rfl) 2 HF.out (by decide) (by decide) HP.out HC.out (.string ⟨(Lib.itoa m).toArray⟩) (rfl))
    · refine opAt rfl ?_
      intro l us wx hJ hp hl K hK
      have HJ := Lib.hid hJ; have HP := Lib.hid hp; have HLI := Lib.hid hl; have HF := Lib.hid (hJ.live hl (by decide)); have HBX := Lib.hid (hJ.below HF.out); have HK := hK
      clear hJ hp hl hK
      simp only [At, List.foldl_cons, List.foldl_nil, List.setIfInBounds_toArray, List.set_cons_zero, List.set_cons_succ] at HK
      have HK := Lib.hid HK
      have h5 : us 5 = .string ⟨(Lib.itoa m).toArray⟩ := HJ.out.val HF.out 2 (by decide) (HP.out 2 (by kernel_rfl))
      simp only [At, List.foldl_cons, List.foldl_nil, List.setIfInBounds_toArray, List.set_cons_zero, List.set_cons_succ]
      refine ⟨?_⟩
      go_simp
      go_wp2_with ((go_at_call 93; (with_reducible refine (HOF.out _).mono ?_); rintro en w9 ⟨v9, rfl, hv9, hbz⟩; have HV := Lib.hid hv9; clear hv9; have HC := Lib.hid hbz; clear hbz))
      exact HK.out (upd (upd us 5 (.string ⟨(Lib.itoa m).toArray⟩)) 6 (v9)) w9 (by rw [upd_self h5]; exact HJ.out.go HSTL (by kernel_rfl) 3 HF.out (by decide) (by decide) HP.out HC.out (v9) (HV.out))
    · refine opAt rfl ?_
      intro l us wx hJ hp hl K hK
      have HJ := Lib.hid hJ; have HP := Lib.hid hp; have HLI := Lib.hid hl; have HF := Lib.hid (hJ.live hl (by decide)); have HBX := Lib.hid (hJ.below HF.out); have HK := hK
      clear hJ hp hl hK
      simp only [At, List.foldl_cons, List.foldl_nil, List.setIfInBounds_toArray, List.set_cons_zero, List.set_cons_succ] at HK
      have HK := Lib.hid HK
      simp only [At, List.foldl_cons, List.foldl_nil, List.setIfInBounds_toArray, List.set_cons_zero, List.set_cons_succ]
      refine ⟨?_⟩
      go_simp
      exact HK.out (upd us 7 (.pointer (some ⟨w.heap.size, 1, none⟩))) wx (by exact HJ.out.go HSTL (by kernel_rfl) 4 HF.out (by decide) (by decide) HP.out (Below.refl _ _) (.pointer (some ⟨w.heap.size, 1, none⟩)) (rfl))
    · refine opAt rfl ?_
      intro l us wx hJ hp hl K hK
      have HJ := Lib.hid hJ; have HP := Lib.hid hp; have HLI := Lib.hid hl; have HF := Lib.hid (hJ.live hl (by decide)); have HBX := Lib.hid (hJ.below HF.out); have HK := hK
      clear hJ hp hl hK
      simp only [At, List.foldl_cons, List.foldl_nil, List.setIfInBounds_toArray, List.set_cons_zero, List.set_cons_succ] at HK
      have HK := Lib.hid HK
      have h7 : us 7 = .pointer (some ⟨w.heap.size, 1, none⟩) := HJ.out.val HF.out 4 (by decide) (HP.out 4 (by kernel_rfl))
      have c1 := keep_cell HBX.out c1
      simp only [At, List.foldl_cons, List.foldl_nil, List.setIfInBounds_toArray, List.set_cons_zero, List.set_cons_succ]
      refine ⟨?_⟩
      go_simp
      exact HK.out (upd (upd us 7 (.pointer (some ⟨w.heap.size, 1, none⟩))) 8 (.int .i64 e)) wx (by rw [upd_self h7]; exact HJ.out.go HSTL (by kernel_rfl) 5 HF.out (by decide) (by decide) HP.out (Below.refl _ _) (.int .i64 e) (rfl))
    · refine opAt rfl ?_
      intro l us wx hJ hp hl K hK
      have HJ := Lib.hid hJ; have HP := Lib.hid hp; have HLI := Lib.hid hl; have HF := Lib.hid (hJ.live hl (by decide)); have HBX := Lib.hid (hJ.below HF.out); have HK := hK
      clear hJ hp hl hK
      simp only [At, List.foldl_cons, List.foldl_nil, List.setIfInBounds_toArray, List.set_cons_zero, List.set_cons_succ] at HK
      have HK := Lib.hid HK
      have h6 : Ri wx (us 6) m := HJ.out.val HF.out 3 (by decide) (HP.out 3 (by kernel_rfl))
      obtain ⟨A6, n6, q6, b6, e6⟩ := h6.form
      have h8 : us 8 = .int .i64 e := HJ.out.val HF.out 5 (by decide) (HP.out 5 (by kernel_rfl))
      simp only [At, List.foldl_cons, List.foldl_nil, List.setIfInBounds_toArray, List.set_cons_zero, List.set_cons_succ]
      refine ⟨?_⟩
      go_simp
      exact HK.out (upd (upd (upd us 6 (.agg #[.slice A6 n6 q6, .bool b6])) 8 (.int .i64 e)) 9 (.agg #[.slice A6 n6 q6, .bool b6, .int .i64 e])) wx (by rw [upd_self e6, upd_self h8]; exact HJ.out.go HSTL (by kernel_rfl) 6 HF.out (by decide) (by decide) HP.out (Below.refl _ _) (.agg #[.slice A6 n6 q6, .bool b6, .int .i64 e]) (⟨A6, n6, q6, b6, rfl, by rw [← e6]; exact h6⟩))
    · refine opAt rfl ?_
      intro l us wx hJ hp hl K hK
      have HJ := Lib.hid hJ; have HP := Lib.hid hp; have HLI := Lib.hid hl; have HF := Lib.hid (hJ.live hl (by decide)); have HBX := Lib.hid (hJ.below HF.out); have HK := hK
      clear hJ hp hl hK
      simp only [At, List.foldl_cons, List.foldl_nil, List.setIfInBounds_toArray, List.set_cons_zero, List.set_cons_succ] at HK
      have HK := Lib.hid HK
      have h9 : Dc wx (us 9) m e := HJ.out.val HF.out 6 (by decide) (HP.out 6 (by kernel_rfl))
      obtain ⟨A9, n9, q9, b9, e9, hr9⟩ := h9
      have hb9 := heapB HBX.out HK1.out
      obtain ⟨d0, d1, d2⟩ := three_cells hb9
      have f0 := free_of_heap hb9 0; have f1 := free_of_heap hb9 1; have f2 := free_of_heap hb9 2
      obtain ⟨F, hF, r0, r1, r2, hri, hfb⟩ := dc_put (e := e) hr9 hb9
      have HR9 := Lib.hid hri; have HFB := Lib.hid (hfb w.heap.size w (by omega) (belowT HBEL.out HBX.out))
      clear hri hfb hr9
      simp only [At, List.foldl_cons, List.foldl_nil, List.setIfInBounds_toArray, List.set_cons_zero, List.set_cons_succ]
      refine ⟨?_⟩
      go_simp
      (try rw [hF])
      exact HK.out (upd us 9 (.agg #[.slice A9 n9 q9, .bool b9, .int .i64 e])) _ (by rw [upd_self e9]; exact HJ.out.store (by kernel_rfl) HLI.out HP.out (⟨A9, n9, q9, b9, r0, r1, r2, HR9.out, HFB.out⟩))
  case rest =>
    obtain ⟨A, n, c, b, r0, r1, r2, HR, HB⟩ := hcut
    go_wp2_with fail
    refine bodyPost_ret (v := .agg #[.slice A n c, .bool b, .int .i64 e]) (by simp [results, Tryz.results45, go_sem, r0, r1, r2]) rfl ?_
    exact ⟨_, rfl, ⟨A, n, c, b, rfl, HR.out⟩, HB.out⟩

theorem dg_shift {N : Nat} (hN : 0 < N) : ∀ n, dg 10 (N * 10 ^ n) = List.replicate n 0 ++ dg 10 N
  | 0 => by simp
  | n + 1 => by
    have hp : 0 < N * 10 ^ (n + 1) := Nat.mul_pos hN (Nat.pow_pos (by decide))
    rw [dg_pos (by decide) hp, Nat.pow_succ, ← Nat.mul_assoc, Nat.mul_mod_left, Nat.mul_div_cancel _ (by decide), dg_shift hN n]
    rfl
theorem own_mono {w : World} {base b2 n : Nat} {e : TypeId} {size : Nat} {v : Value} {xs : List Value} (h : w.ownsRow base e size v n xs) (hb : b2 ≤ base) : w.ownsRow b2 e size v n xs := by
  refine ⟨h.1, h.2.imp id ?_⟩
  rintro ⟨g, cap, cur, rfl, hg, hh, hr⟩
  exact ⟨g, cap, cur, rfl, Nat.le_trans hb hg, hh, hr⟩
/-- append of digits to zeros that fill their row. -/
theorem step_app {ops : Array Oper} {o : Oper} {a : Act} {w : World} {K : Act → World → Prop} {Q : Exit → Act → World → Prop} {E : Prop}
    (hg : o.guard = none) (s x : Operand) (hop : o.op = Op.call { callee := Callee.builtin Builtin.append, args := #[s, x], argTypes := #[56, 56] })
    (base g n N : Nat) (hs : a.eval s = .slice (some ⟨g, 0, none⟩) n n) (hown : w.ownsRow base 3 1 (.slice (some ⟨g, 0, none⟩) n n) n ((List.replicate n (0 : Int)).map (Value.int .i64)))
    (A : Option Addr) (c : Nat) (hx : a.eval x = .slice A (dg 10 N).length c) (hr : Row .i64 w A (dg 10 N)) (hN : 0 < N) (hb : n + (dg 10 N).length ≤ 10000000)
    (hK : ∀ v' w', Dg 10 w' v' (N * 10 ^ n) → Below w.heap.size w w' → K (a.put o.dst v') w') :
    if Region.wanted o (yielded ops a.tmps) = true then Oper.wp Tryz.prog o a w K Q else E := by
  obtain ⟨i0, hi, hz0, hz1, hz2⟩ := info_parts info_int
  have hl : 0 < (dg 10 N).length := List.length_pos_iff.2 fun e => by have := (dg_eq_nil (by decide)).1 e; omega
  obtain ⟨ad, rfl, -⟩ := hr 0 hl
  refine step_append_grows hg s x 56 hop 3 i0 (.int .i64 0) 1 8 Tryz.underlying56 hi hz0 hz1 hz2 rfl (by decide) (some ⟨g, 0, none⟩) n n ((List.replicate n (0 : Int)).map (Value.int .i64)) hs (fun h => by cases h) (by simp) ?_ ad (dg 10 N).length c ((dg 10 N).map (Value.int .i64)) hx (by simp) ?_ ?_ (by omega) (by unfold maxLen; omega) (by omega) ?_
  · intro b hb2 j u hj
    cases hb2
    exact hown.cells (g := g) rfl j _ hj
  · intro j u hj
    have hjn : j < (dg 10 N).length := by
      have := (List.getElem?_eq_some_iff.1 hj).1
      simpa using this
    obtain ⟨a', e, hc⟩ := hr j hjn
    cases e
    rw [hc]
    rw [List.getElem?_map, List.getElem?_eq_getElem hjn] at hj
    rw [List.getElem?_eq_getElem hjn]
    exact hj
  · intro u hu; obtain ⟨x, _, rfl⟩ := List.mem_map.1 hu; rfl
  · intro v' w' h1 h2
    rw [← List.map_append, ← dg_shift hN] at h1
    exact hK v' w' (own_sl h1) ((Below.refl _ _).grown h2 (Nat.le_refl _) (fun k hk => by cases hk))

set_option maxRecDepth 100000 in
set_option maxHeartbeats 8000000 in
theorem zeros_c (v : Value) (z k : Int) (n : Nat) (w : World) (h : Ri w v z) (hm : (dg 10 z.natAbs).length ≤ 1000000) (hk : k = (n : Int)) (hn : n ≤ 1000000) :
    Calls Tryz.prog 126 #[v, .int .i64 k] w (RiP (z * 10 ^ n) w) := by
  subst hk
  obtain ⟨A, L, c, b, rfl⟩ := h.form
  obtain ⟨hL, hbz⟩ := ri_parts h
  obtain ⟨W, hW, k0, k1, hbel, hsz⟩ := bx2h w #[.slice A L c, .bool b] #[.slice none 0 0, .bool false] 58 58
  obtain ⟨c0, c1⟩ := two_cells k0
  have HK1 := Lib.hid k1
  have HBEL := Lib.hid hbel
  have HR := Lib.hid (h.below hbel)
  clear k0 k1 hbel
  by_cases hz : z = 0
  · subst hz
    obtain rfl : L = 0 := by rw [hL, Int.natAbs_zero, dg_zero]; rfl
    obtain ⟨d0, d1⟩ := two_cells HK1.out
    have f0 := free_of_heap HK1.out 0; have f1 := free_of_heap HK1.out 1
    obtain ⟨F, hF, r0, r1, hri, hfb⟩ := ri_put HR.out HK1.out
    have HRI := Lib.hid hri; have HFB := Lib.hid (hfb w.heap.size w (by omega) HBEL.out)
    clear hri hfb hbz hL hm h
    go_enter Tryz.func126, Tryz.ntmps126
    go_wp2_with fail
    try rw [hF]
    refine bodyPost_ret (v := .agg #[.slice A 0 c, .bool b]) (by simp [results, Tryz.results126, go_sem, r0, r1]) rfl ?_
    exact ⟨_, rfl, by rw [Int.zero_mul]; exact HRI.out, HFB.out⟩
  have hL0 : 0 < L := by
    rw [hL]
    exact List.length_pos_iff.2 fun e => by have := (dg_eq_nil (by decide)).1 e; omega
  have hLz : ((L : Int) == 0) = false := by rw [beq_eq_false_iff_ne]; omega
  obtain ⟨A', c', he, hlc, hcm, hrow⟩ : ∃ A' c', (Value.slice A L c) = .slice A' (dg 10 z.natAbs).length c' ∧ (dg 10 z.natAbs).length ≤ c' ∧ c' ≤ 9223372036854775807 ∧ Row .i64 w A' (dg 10 z.natAbs) := by
    obtain ⟨p, e, A', c', e2, x⟩ := h
    cases e
    exact ⟨A', c', e2, x⟩
  cases he
  have HROW := Lib.hid (hrow.below HBEL.out)
  have HL := Lib.hid hL
  have HM := Lib.hid hm
  have HBZ := Lib.hid hbz
  have hsg : decide (z * 10 ^ n < 0) = b := by
    rw [hbz]
    apply decide_eq_decide.2
    have hp : (0 : Int) < 10 ^ n := Int.pow_pos (by decide)
    constructor
    · intro h1
      by_cases h2 : z < 0
      · exact h2
      · have := Int.mul_nonneg (Int.not_lt.1 h2) (Int.le_of_lt hp)
        omega
    · intro h1
      exact Int.mul_neg_of_neg_of_pos h1 hp
  have hab : (z * 10 ^ n).natAbs = z.natAbs * 10 ^ n := by
    rw [Int.natAbs_mul, Int.natAbs_pow]; rfl
  have HSG := Lib.hid (And.intro hsg hab)
  have HZ : Hid (0 < z.natAbs) := by show _ < _; omega
  have hmk := make_nat n (n : Int) rfl (by omega)
  clear hsg hab hlc hcm hrow hbz hL h hm
  obtain ⟨L, hLL⟩ : ∃ L, (dg 10 z.natAbs).length = L := ⟨_, rfl⟩
  rw [hLL] at c0 hL0 hLz HR hW ⊢
  have HLL := Lib.hid hLL
  clear hLL
  go_enter Tryz.func126, Tryz.ntmps126
  go_upto_region 3 with fail
  go_cut [17] from 10 to 17 (fun v wx => ∃ A n' c b, wx.cell? ⟨w.heap.size + 1, 0, none⟩ = some (.slice A n' c) ∧ wx.cell? ⟨w.heap.size + 1, 1, none⟩ = some (.bool b) ∧ Hid (Ri wx (.agg #[.slice A n' c, .bool b]) (z * 10 ^ n)) ∧ Hid (Below w.heap.size w wx))
  case first =>
    have HSTL : StableL [(fun _ v => v = .int .i64 (n : Int)), (fun w v => ∃ g, v = .slice (some ⟨g, 0, none⟩) n n ∧ w.ownsRow 0 3 1 (.slice (some ⟨g, 0, none⟩) n n) n ((List.replicate n (0 : Int)).map (Value.int .i64))), (fun _ v => v = .pointer (some ⟨w.heap.size, 0, none⟩)), (fun _ v => v = .slice A L c), (fun w v => Dg 10 w v (z.natAbs * 10 ^ n)), (fun _ v => v = .pointer (some ⟨w.heap.size, 1, none⟩)), (fun _ v => v = .bool b), (fun w v => Ri w v (z * 10 ^ n)), (fun _ _ => True)] := ⟨(fun _ _ _ _ h => h), (fun _ _ _ hb ⟨g, e, h⟩ => ⟨g, e, own_below h hb⟩), (fun _ _ _ _ h => h), (fun _ _ _ _ h => h), (fun _ _ _ hb h => Dg.below h hb), (fun _ _ _ _ h => h), (fun _ _ _ _ h => h), (fun _ _ _ hb h => Ri.below h hb), (fun _ _ _ _ h => h), trivial⟩
    refine wp_region_p [10, 11, 12, 13, 14, 15, 16, 17] [10, 11, 12, 13, 14, 15, 16, 17, 1000] [(fun _ v => v = .int .i64 (n : Int)), (fun w v => ∃ g, v = .slice (some ⟨g, 0, none⟩) n n ∧ w.ownsRow 0 3 1 (.slice (some ⟨g, 0, none⟩) n n) n ((List.replicate n (0 : Int)).map (Value.int .i64))), (fun _ v => v = .pointer (some ⟨w.heap.size, 0, none⟩)), (fun _ v => v = .slice A L c), (fun w v => Dg 10 w v (z.natAbs * 10 ^ n)), (fun _ v => v = .pointer (some ⟨w.heap.size, 1, none⟩)), (fun _ v => v = .bool b), (fun w v => Ri w v (z * 10 ^ n)), (fun _ _ => True)] 8 (fun _ wx => ∃ A n' c b, wx.cell? ⟨w.heap.size + 1, 0, none⟩ = some (.slice A n' c) ∧ wx.cell? ⟨w.heap.size + 1, 1, none⟩ = some (.bool b) ∧ Hid (Ri wx (.agg #[.slice A n' c, .bool b]) (z * 10 ^ n)) ∧ Hid (Below w.heap.size w wx)) 9 rfl (by kernel_rfl) (by kernel_rfl) ?_ ⟨?_, ?_, ?_, ?_, ?_, ?_, ?_, ?_, ?_, trivial⟩
    · intro l us wx hl hJ
      have HF := Lib.hid (hJ.ended hl (by decide))
      clear hl hJ
      simp only [At, List.foldl_cons, List.foldl_nil, List.setIfInBounds_toArray, List.set_cons_zero, List.set_cons_succ]
      go_wp2_with fail
      go_meet
      exact HF.out
    · refine opAt rfl ?_
      intro l us wx hJ hp hl K hK
      have HJ := Lib.hid hJ; have HP := Lib.hid hp; have HLI := Lib.hid hl; have HF := Lib.hid (hJ.live hl (by decide)); have HBX := Lib.hid (hJ.below HF.out); have HK := hK
      clear hJ hp hl hK
      simp only [At, List.foldl_cons, List.foldl_nil, List.setIfInBounds_toArray, List.set_cons_zero, List.set_cons_succ] at HK
      have HK := Lib.hid HK
      simp only [At, List.foldl_cons, List.foldl_nil, List.setIfInBounds_toArray, List.set_cons_zero, List.set_cons_succ]
      refine ⟨?_⟩
      go_simp
      exact HK.out (upd us 10 (.int .i64 (n : Int))) wx (by exact HJ.out.go HSTL (by kernel_rfl) 0 HF.out (by decide) (by decide) HP.out (Below.refl _ _) (.int .i64 (n : Int)) (rfl))
    · refine opAt rfl ?_
      intro l us wx hJ hp hl K hK
      have HJ := Lib.hid hJ; have HP := Lib.hid hp; have HLI := Lib.hid hl; have HF := Lib.hid (hJ.live hl (by decide)); have HBX := Lib.hid (hJ.below HF.out); have HK := hK
      clear hJ hp hl hK
      simp only [At, List.foldl_cons, List.foldl_nil, List.setIfInBounds_toArray, List.set_cons_zero, List.set_cons_succ] at HK
      have HK := Lib.hid HK
      have h10 : us 10 = .int .i64 (n : Int) := HJ.out.val HF.out 0 (by decide) (HP.out 0 (by kernel_rfl))
      simp only [At, List.foldl_cons, List.foldl_nil, List.setIfInBounds_toArray, List.set_cons_zero, List.set_cons_succ]
      refine ⟨?_⟩
      go_simp
      obtain ⟨w9, hw9, how⟩ : ∃ w9, wx.alloc (.cells (madeCells #[.int .i64 0] n) 3) = w9 ∧ w9.ownsRow wx.heap.size 3 1 (.slice (some ⟨wx.heap.size, 0, none⟩) n n) n ((List.replicate n (0 : Int)).map (Value.int .i64)) := ⟨_, rfl, own_zeros wx n (by omega)⟩
      have HC : Hid (Below wx.heap.size wx w9) := by show Below _ _ _; rw [← hw9]; exact (Below.refl _ _).alloc (Nat.le_refl _) _
      rw [hw9]
      have HOW := Lib.hid (own_mono how (Nat.zero_le _))
      clear how hw9
      exact HK.out (upd (upd us 10 (.int .i64 (n : Int))) 11 (.slice (some ⟨wx.heap.size, 0, none⟩) n n)) w9 (by rw [upd_self h10]; exact HJ.out.go HSTL (by kernel_rfl) 1 HF.out (by decide) (by decide) HP.out HC.out (.slice (some ⟨wx.heap.size, 0, none⟩) n n) (⟨_, rfl, HOW.out⟩))
    · refine opAt rfl ?_
      intro l us wx hJ hp hl K hK
      have HJ := Lib.hid hJ; have HP := Lib.hid hp; have HLI := Lib.hid hl; have HF := Lib.hid (hJ.live hl (by decide)); have HBX := Lib.hid (hJ.below HF.out); have HK := hK
      clear hJ hp hl hK
      simp only [At, List.foldl_cons, List.foldl_nil, List.setIfInBounds_toArray, List.set_cons_zero, List.set_cons_succ] at HK
      have HK := Lib.hid HK
      simp only [At, List.foldl_cons, List.foldl_nil, List.setIfInBounds_toArray, List.set_cons_zero, List.set_cons_succ]
      refine ⟨?_⟩
      go_simp
      exact HK.out (upd us 12 (.pointer (some ⟨w.heap.size, 0, none⟩))) wx (by exact HJ.out.go HSTL (by kernel_rfl) 2 HF.out (by decide) (by decide) HP.out (Below.refl _ _) (.pointer (some ⟨w.heap.size, 0, none⟩)) (rfl))
    · refine opAt rfl ?_
      intro l us wx hJ hp hl K hK
      have HJ := Lib.hid hJ; have HP := Lib.hid hp; have HLI := Lib.hid hl; have HF := Lib.hid (hJ.live hl (by decide)); have HBX := Lib.hid (hJ.below HF.out); have HK := hK
      clear hJ hp hl hK
      simp only [At, List.foldl_cons, List.foldl_nil, List.setIfInBounds_toArray, List.set_cons_zero, List.set_cons_succ] at HK
      have HK := Lib.hid HK
      have h12 : us 12 = .pointer (some ⟨w.heap.size, 0, none⟩) := HJ.out.val HF.out 2 (by decide) (HP.out 2 (by kernel_rfl))
      have c0 := keep_cell HBX.out c0
      simp only [At, List.foldl_cons, List.foldl_nil, List.setIfInBounds_toArray, List.set_cons_zero, List.set_cons_succ]
      refine ⟨?_⟩
      go_simp
      exact HK.out (upd (upd us 12 (.pointer (some ⟨w.heap.size, 0, none⟩))) 13 (.slice A L c)) wx (by rw [upd_self h12]; exact HJ.out.go HSTL (by kernel_rfl) 3 HF.out (by decide) (by decide) HP.out (Below.refl _ _) (.slice A L c) (rfl))
    · refine opAt rfl ?_
      intro l us wx hJ hp hl K hK
      have HJ := Lib.hid hJ; have HP := Lib.hid hp; have HLI := Lib.hid hl; have HF := Lib.hid (hJ.live hl (by decide)); have HBX := Lib.hid (hJ.below HF.out); have HK := hK
      clear hJ hp hl hK
      simp only [At, List.foldl_cons, List.foldl_nil, List.setIfInBounds_toArray, List.set_cons_zero, List.set_cons_succ] at HK
      have HK := Lib.hid HK
      have h11 : ∃ g, us 11 = .slice (some ⟨g, 0, none⟩) n n ∧ wx.ownsRow 0 3 1 (.slice (some ⟨g, 0, none⟩) n n) n ((List.replicate n (0 : Int)).map (Value.int .i64)) := HJ.out.val HF.out 1 (by decide) (HP.out 1 (by kernel_rfl))
      obtain ⟨g, e11, hown⟩ := h11
      have h13 : us 13 = .slice A L c := HJ.out.val HF.out 3 (by decide) (HP.out 3 (by kernel_rfl))
      refine ⟨?_⟩
      refine step_app ?_ (.tmp 11) (.tmp 13) ?_ 0 g n z.natAbs ?_ hown A c ?_ (HROW.out.below HBX.out) HZ.out ?_ ?_
      · rfl
      · rfl
      · simp [Act.eval, At, e11]
      · rw [HLL.out]; simp [Act.eval, At, h13]
      · have := HM.out; rw [HLL.out] at this ⊢; omega
      intro v9 w9 hv9 hb9
      have HV := Lib.hid hv9; have HC := Lib.hid hb9
      clear hv9 hb9
      simp only [At, List.foldl_cons, List.foldl_nil, List.setIfInBounds_toArray, List.set_cons_zero, List.set_cons_succ]
      go_simp
      exact HK.out (upd (upd (upd us 11 (.slice (some ⟨g, 0, none⟩) n n)) 13 (.slice A L c)) 14 (v9)) w9 (by rw [upd_self e11, upd_self h13]; exact HJ.out.go HSTL (by kernel_rfl) 4 HF.out (by decide) (by decide) HP.out HC.out (v9) (HV.out))
    · refine opAt rfl ?_
      intro l us wx hJ hp hl K hK
      have HJ := Lib.hid hJ; have HP := Lib.hid hp; have HLI := Lib.hid hl; have HF := Lib.hid (hJ.live hl (by decide)); have HBX := Lib.hid (hJ.below HF.out); have HK := hK
      clear hJ hp hl hK
      simp only [At, List.foldl_cons, List.foldl_nil, List.setIfInBounds_toArray, List.set_cons_zero, List.set_cons_succ] at HK
      have HK := Lib.hid HK
      simp only [At, List.foldl_cons, List.foldl_nil, List.setIfInBounds_toArray, List.set_cons_zero, List.set_cons_succ]
      refine ⟨?_⟩
      go_simp
      exact HK.out (upd us 15 (.pointer (some ⟨w.heap.size, 1, none⟩))) wx (by exact HJ.out.go HSTL (by kernel_rfl) 5 HF.out (by decide) (by decide) HP.out (Below.refl _ _) (.pointer (some ⟨w.heap.size, 1, none⟩)) (rfl))
    · refine opAt rfl ?_
      intro l us wx hJ hp hl K hK
      have HJ := Lib.hid hJ; have HP := Lib.hid hp; have HLI := Lib.hid hl; have HF := Lib.hid (hJ.live hl (by decide)); have HBX := Lib.hid (hJ.below HF.out); have HK := hK
      clear hJ hp hl hK
      simp only [At, List.foldl_cons, List.foldl_nil, List.setIfInBounds_toArray, List.set_cons_zero, List.set_cons_succ] at HK
      have HK := Lib.hid HK
      have h15 : us 15 = .pointer (some ⟨w.heap.size, 1, none⟩) := HJ.out.val HF.out 5 (by decide) (HP.out 5 (by kernel_rfl))
      have c1 := keep_cell HBX.out c1
      simp only [At, List.foldl_cons, List.foldl_nil, List.setIfInBounds_toArray, List.set_cons_zero, List.set_cons_succ]
      refine ⟨?_⟩
      go_simp
      exact HK.out (upd (upd us 15 (.pointer (some ⟨w.heap.size, 1, none⟩))) 16 (.bool b)) wx (by rw [upd_self h15]; exact HJ.out.go HSTL (by kernel_rfl) 6 HF.out (by decide) (by decide) HP.out (Below.refl _ _) (.bool b) (rfl))
    · refine opAt rfl ?_
      intro l us wx hJ hp hl K hK
      have HJ := Lib.hid hJ; have HP := Lib.hid hp; have HLI := Lib.hid hl; have HF := Lib.hid (hJ.live hl (by decide)); have HBX := Lib.hid (hJ.below HF.out); have HK := hK
      clear hJ hp hl hK
      simp only [At, List.foldl_cons, List.foldl_nil, List.setIfInBounds_toArray, List.set_cons_zero, List.set_cons_succ] at HK
      have HK := Lib.hid HK
      have h14 : Dg 10 wx (us 14) (z.natAbs * 10 ^ n) := HJ.out.val HF.out 4 (by decide) (HP.out 4 (by kernel_rfl))
      obtain ⟨A14, n14, q14, e14⟩ := h14.form
      have h16 : us 16 = .bool b := HJ.out.val HF.out 6 (by decide) (HP.out 6 (by kernel_rfl))
      simp only [At, List.foldl_cons, List.foldl_nil, List.setIfInBounds_toArray, List.set_cons_zero, List.set_cons_succ]
      refine ⟨?_⟩
      go_simp
      exact HK.out (upd (upd (upd us 14 (.slice A14 n14 q14)) 16 (.bool b)) 17 (.agg #[.slice A14 n14 q14, .bool b])) wx (by rw [upd_self e14, upd_self h16]; exact HJ.out.go HSTL (by kernel_rfl) 7 HF.out (by decide) (by decide) HP.out (Below.refl _ _) (.agg #[.slice A14 n14 q14, .bool b]) (⟨_, by rw [HSG.out.1], by rw [HSG.out.2, ← e14]; exact h14⟩))
    · refine opAt rfl ?_
      intro l us wx hJ hp hl K hK
      have HJ := Lib.hid hJ; have HP := Lib.hid hp; have HLI := Lib.hid hl; have HF := Lib.hid (hJ.live hl (by decide)); have HBX := Lib.hid (hJ.below HF.out); have HK := hK
      clear hJ hp hl hK
      simp only [At, List.foldl_cons, List.foldl_nil, List.setIfInBounds_toArray, List.set_cons_zero, List.set_cons_succ] at HK
      have HK := Lib.hid HK
      have h17 : Ri wx (us 17) (z * 10 ^ n) := HJ.out.val HF.out 7 (by decide) (HP.out 7 (by kernel_rfl))
      obtain ⟨A17, n17, q17, b17, e17⟩ := h17.form
      rw [e17] at h17
      have hb9 := heapB HBX.out HK1.out
      obtain ⟨d0, d1⟩ := two_cells hb9
      have f0 := free_of_heap hb9 0; have f1 := free_of_heap hb9 1
      obtain ⟨F, hF, r0, r1, hri, hfb⟩ := ri_put h17 hb9
      have HR9 := Lib.hid hri; have HFB := Lib.hid (hfb w.heap.size w (by omega) (belowT HBEL.out HBX.out))
      clear hri hfb h17
      simp only [At, List.foldl_cons, List.foldl_nil, List.setIfInBounds_toArray, List.set_cons_zero, List.set_cons_succ]
      refine ⟨?_⟩
      go_simp
      (try rw [hF])
      exact HK.out (upd us 17 (.agg #[.slice A17 n17 q17, .bool b17])) _ (by rw [upd_self e17]; exact HJ.out.store (by kernel_rfl) HLI.out HP.out (⟨A17, n17, q17, b17, r0, r1, HR9.out, HFB.out⟩))
  case rest =>
    obtain ⟨A, n', c, b, r0, r1, HR, HB⟩ := hcut
    go_wp2_with fail
    refine bodyPost_ret (v := .agg #[.slice A n' c, .bool b]) (by simp [results, Tryz.results126, go_sem, r0, r1]) rfl ?_
    exact ⟨_, rfl, HR.out, HB.out⟩
end Go.Proofs.YtekbfommnmikbaaGreatDoor
/- The reference of layer 2: at, Order, Plus, Times, Whole, FromNumber. -/
namespace Go.Proofs.YtekbfommnmikbaaGreatDoor
set_option linter.unusedVariables false
set_option linter.unusedSimpArgs false
open Go.RowKit Go.Shelf Go.Proofs
attribute [local go_sem ↓] Go.wp_at_zero Go.wp_at_succ
attribute [local go_sem] max2_int min2_int max_two min_two

theorem Dc.drew {w : World} {v : Value} {z e : Int} (h : Dc w v z e) : Dc w.drew v z e := h.below (Below.refl _ _).drew
theorem Dc.form {w : World} {v : Value} {z e : Int} (h : Dc w v z e) : ∃ A n c b, v = .agg #[.slice A n c, .bool b, .int .i64 e] := by
  obtain ⟨A, n, c, b, h1, h2⟩ := h
  exact ⟨A, n, c, b, h1⟩
theorem dg_mul_le {a b : Nat} {m n : Nat} (ha : (dg 10 a).length ≤ m) (hb : (dg 10 b).length ≤ n) : (dg 10 (a * b)).length ≤ m + n := by
  rw [dg_length_le (by decide)] at ha hb ⊢
  rw [Nat.pow_add]
  exact Nat.mul_lt_mul'' ha hb
theorem dg_shift_le {z : Int} {m : Nat} (n : Nat) (h : (dg 10 z.natAbs).length ≤ m) : (dg 10 (z * 10 ^ n).natAbs).length ≤ m + n := by
  have e : (z * 10 ^ n).natAbs = z.natAbs * 10 ^ n := by rw [Int.natAbs_mul, Int.natAbs_pow]; rfl
  rw [e]
  by_cases h0 : 0 < z.natAbs
  · rw [dg_shift h0, List.length_append, List.length_replicate]; omega
  · have : z.natAbs = 0 := by omega
    rw [this, Nat.zero_mul, dg_zero]; exact Nat.zero_le _
/-- The least of two. -/
def mn (a b : Int) : Int := if b < a then b else a
theorem mn_le (a b : Int) : mn a b ≤ a ∧ mn a b ≤ b := by unfold mn; split <;> omega

set_option maxRecDepth 100000 in
set_option maxHeartbeats 8000000 in
theorem sat_c (v : Value) (z e d : Int) (k : Nat) (w : World) (h : Dc w v z e) (hm : (dg 10 z.natAbs).length ≤ 1000000) (hk : e - d = (k : Int)) (hn : k ≤ 1000000) (he0 : -1000000 ≤ e) (he1 : e ≤ 1000000) :
    Calls Tryz.prog 118 #[v, .int .i64 d] w (RiP (z * 10 ^ k) w) := by
  obtain ⟨A, n, c, b, rfl, hri⟩ := h
  obtain ⟨W, hW, k0, k1, hbel, hsz⟩ := bx2h w #[.slice A n c, .bool b, .int .i64 e] #[.slice none 0 0, .bool false] 60 58
  obtain ⟨c0, c1, c2⟩ := three_cells k0
  have HK1 := Lib.hid k1
  have HBEL := Lib.hid hbel
  have HZ := Lib.hid (zeros_c (.agg #[.slice A n c, .bool b]) z (e - d) k W (hri.below hbel) hm hk hn)
  have hw : IntKind.i64.wrap (e - d) = e - d := IntWalk.i64_in _ (by omega)
  have HKK := Lib.hid hk
  clear k0 k1 hbel hk
  go_enter Tryz.func118, Tryz.ntmps118
  go_wp2_with (go_at_call 126; (with_reducible refine (HZ.out).mono ?_); rintro en w2 ⟨v, rfl, hv, hbz⟩; obtain ⟨A9, n9, c9, b9, rfl⟩ := hv.form; have hhx := heapB hbz HK1.out; obtain ⟨x0, x1⟩ := two_cells hhx; have y0 := free_of_heap hhx 0; have y1 := free_of_heap hhx 1; have HV := Lib.hid hv; have HX := Lib.hid hhx; have HB2 := Lib.hid (belowT HBEL.out hbz); clear hv hbz hhx)
  obtain ⟨F, hF, r0, r1, hri, hfb⟩ := ri_put HV.out HX.out
  rw [hF]
  refine bodyPost_ret (v := .agg #[.slice A9 n9 c9, .bool b9]) (by simp [results, Tryz.results118, go_sem, r0, r1]) rfl ?_
  exact ⟨_, rfl, hri, hfb _ _ (by omega) HB2.out⟩

end Go.Proofs.YtekbfommnmikbaaGreatDoor
/- Plain mathematics: rounding keeps the order. No program in sight. -/
namespace Go.Proofs.YtekbfommnmikbaaGreatDoor
set_option linter.unusedVariables false
set_option linter.unusedSimpArgs false

end Go.Proofs.YtekbfommnmikbaaGreatDoor
/- Plain laws: rounded values with a sign, and the order of reals. -/
namespace Go.Proofs.YtekbfommnmikbaaGreatDoor
set_option linter.unusedVariables false
set_option linter.unusedSimpArgs false

/-- A magnitude and an exponent with a sign. -/
def sgo (s : Bool) : Option (Nat × Int) → Option (Int × Int)
  | some (m, x) => some (sgm s m, x)
  | none => none
/-- The rounded value of v times 10^e, with its sign. -/
def rndS (v e : Int) : Option (Int × Int) := sgo (decide (v < 0)) (rnd v.natAbs e)
theorem rndS_mul (v : Int) (j : Nat) (e : Int) : rndS (v * 10 ^ j) (e - j) = rndS v e := by
  unfold rndS
  have hp : (0 : Int) < 10 ^ j := Int.pow_pos (by decide)
  have e1 : (v * 10 ^ j).natAbs = v.natAbs * 10 ^ j := by rw [Int.natAbs_mul, Int.natAbs_pow]; rfl
  have e2 : decide (v * 10 ^ j < 0) = decide (v < 0) := by
    apply decide_eq_decide.2
    constructor
    · intro h1
      by_cases h2 : v < 0
      · exact h2
      · have := Int.mul_nonneg (Int.not_lt.1 h2) (Int.le_of_lt hp); omega
    · intro h1; exact Int.mul_neg_of_neg_of_pos h1 hp
  rw [e1, e2, rnd_mul]
/-- The same at another scale. -/
theorem rndS_scale (v : Int) {e d : Int} (h : d ≤ e) : rndS (v * 10 ^ (e - d).toNat) d = rndS v e := by
  have := rndS_mul v (e - d).toNat e
  rwa [show e - ((e - d).toNat : Int) = d by omega] at this
theorem rndS_zero (e : Int) : rndS 0 e = some (0, 0) := by unfold rndS; rw [Int.natAbs_zero, rnd_zero]; rfl
end Go.Proofs.YtekbfommnmikbaaGreatDoor
/- The reference of layer 2: half, number, signed. -/
namespace Go.Proofs.YtekbfommnmikbaaGreatDoor
set_option linter.unusedVariables false
set_option linter.unusedSimpArgs false
open Go.RowKit Go.Shelf Go.Proofs
attribute [local go_sem ↓] Go.wp_at_zero Go.wp_at_succ

/-- Digits behind a point against a half. -/
def hC (xs : List Int) : Int := sgn (2 * val 10 xs - 10 ^ xs.length)
theorem hC_nil : hC [] = -1 := by decide
theorem val_top (xs : List Int) (L : Nat) (hL : xs.length = L + 1) : val 10 xs = val 10 (xs.take L) + 10 ^ L * xs[L]?.getD 0 := by
  have h := val_take_succ 10 xs L
  rw [List.take_of_length_le (by omega), List.getD_eq_getElem?_getD] at h
  exact h
theorem hC_less {xs : List Int} {L : Nat} (hi : InR 10 xs) (hL : xs.length = L + 1) (h : xs[L]?.getD 0 < 5) : hC xs = -1 := by
  have h1 := val_top xs L hL
  have h2 := val_lt (hi.take L)
  rw [List.length_take, Nat.min_eq_left (by omega)] at h2
  have hp : (0 : Int) < 10 ^ L := Int.pow_pos (by decide)
  have h3 := Int.mul_le_mul_of_nonneg_left (show xs[L]?.getD 0 ≤ 4 by omega) (Int.le_of_lt hp)
  refine sgn_lt ?_
  rw [hL, Int.pow_succ, h1]
  have h2' : val 10 (xs.take L) < 10 ^ L := h2
  omega
theorem hC_more {xs : List Int} {L : Nat} (hi : InR 10 xs) (hL : xs.length = L + 1) (h : 5 ≤ xs[L]?.getD 0) (h0 : 0 < val 10 (xs.take L)) : hC xs = 1 := by
  have h1 := val_top xs L hL
  have hp : (0 : Int) < 10 ^ L := Int.pow_pos (by decide)
  have h3 := Int.mul_le_mul_of_nonneg_left h (Int.le_of_lt hp)
  refine sgn_gt ?_
  rw [hL, Int.pow_succ, h1]
  omega
theorem hC_even {xs : List Int} {L : Nat} (hL : xs.length = L + 1) (h0 : val 10 (xs.take L) = 0) : hC xs = sgn (xs[L]?.getD 0 - 5) := by
  have h1 := val_top xs L hL
  have hp : (0 : Int) < 10 ^ L := Int.pow_pos (by decide)
  unfold hC
  rw [hL, Int.pow_succ, h1, h0]
  obtain ⟨x, hx⟩ : ∃ x, xs[L]?.getD 0 = x := ⟨_, rfl⟩
  rw [hx, show (2 * (0 + 10 ^ L * x) - 10 ^ L * 10 : Int) = (2 * 10 ^ L) * (x - 5) by rw [Int.mul_sub]; generalize (10 : Int) ^ L = p at *; grind]
  unfold sgn
  by_cases a : x - 5 < 0
  · rw [if_pos (Int.mul_neg_of_pos_of_neg (by omega) a), if_pos a]
  · by_cases b : 0 < x - 5
    · have := Int.mul_pos (show (0 : Int) < 2 * 10 ^ L by omega) b
      rw [if_neg (by omega), if_pos this, if_neg a, if_pos b]
    · have e : x - 5 = 0 := by omega
      rw [e, Int.mul_zero]
theorem val_take_zero {xs : List Int} (L : Nat) (h : ∀ j, j < L → xs[j]?.getD 0 = 0) : val 10 (xs.take L) = 0 := by
  induction L with
  | zero => rfl
  | succ L ih => rw [val_take_succ, ih (fun j hj => h j (by omega)), List.getD_eq_getElem?_getD, h L (by omega)]; omega
theorem val_take_pos {xs : List Int} (hi : InR 10 xs) {j L : Nat} (hj : j < L) (h : xs[j]?.getD 0 ≠ 0) : 0 < val 10 (xs.take L) := by
  induction L with
  | zero => omega
  | succ L ih =>
    have hp : (0 : Int) < 10 ^ L := Int.pow_pos (by decide)
    have h0 := (hi.at_ (by decide) L).1
    have h1 := val_nonneg (hi.take L)
    rw [val_take_succ]
    have h2 := Int.mul_nonneg (Int.le_of_lt hp) h0
    by_cases e : j = L
    · subst e
      rw [List.getD_eq_getElem?_getD] at h0 h2 ⊢
      have := Int.mul_pos hp (show 0 < xs[j]?.getD 0 by omega)
      have e9 : ((10 : Nat) : Int) = 10 := rfl
      rw [e9]
      omega
    · have := ih (by omega)
      have e9 : ((10 : Nat) : Int) = 10 := rfl
      rw [e9]
      omega

set_option maxRecDepth 100000 in
theorem compare_ref (a b : Int) (w : World) : Calls Tryz.prog 159 #[.int .i64 a, .int .i64 b] w fun e w' => e = .returned (.int .i64 (sgn (a - b))) ∧ w = w' := by
  by_cases h : a < b
  · rw [sgn_lt (by omega)]
    go_enter Tryz.func159, Tryz.ntmps159
    go_wp2_with fail
    go_ret
    exact ⟨rfl, rfl⟩
  · by_cases h2 : b < a
    · rw [sgn_gt (by omega)]
      go_enter Tryz.func159, Tryz.ntmps159
      go_wp2_with fail
      go_ret
      exact ⟨rfl, rfl⟩
    · obtain rfl : a = b := by omega
      rw [show a - a = 0 by omega, sgn_zero]
      go_enter Tryz.func159, Tryz.ntmps159
      go_wp2_with fail
      go_ret
      exact ⟨rfl, rfl⟩

set_option maxRecDepth 100000 in
set_option maxHeartbeats 2000000 in
theorem half_c (A : Option Addr) (c : Nat) (xs : List Int) (w : World) (hr : Row .i64 w A xs) (hi : InR 10 xs) (hl : xs.length ≤ 1000000) :
    Calls Tryz.prog 91 #[.slice A xs.length c] w fun e w' => e = .returned (.int .i64 (hC xs)) ∧ w = w' := by
  by_cases h0 : xs = []
  · subst h0
    clear hr hi hl
    rw [hC_nil]
    show Calls Tryz.prog 91 #[.slice A 0 c] w _
    go_enter Tryz.func91, Tryz.ntmps91
    go_wp2_with fail
    go_ret
    exact ⟨rfl, rfl⟩
  obtain ⟨L, hL⟩ : ∃ L, xs.length = L + 1 := ⟨xs.length - 1, by have := List.length_pos_iff.2 h0; omega⟩
  obtain ⟨a, rfl, hcell⟩ := hr L (by omega)
  have hb := hi.at_ (by decide) L
  rw [List.getD_eq_getElem?_getD] at hb
  have hless := hC_less hi hL
  have heven := hC_even hL
  have hmore := hC_more hi hL
  obtain ⟨x, hx⟩ : ∃ x, xs[L]?.getD 0 = x := ⟨_, rfl⟩
  rw [hx] at hcell hb hless heven hmore
  obtain ⟨hb0, hb1⟩ := hb
  have hLne : ((L : Int) + 1 == 0) = false := by rw [beq_eq_false_iff_ne]; omega
  have hL1 : L ≤ 1000000 := by omega
  rw [hL]
  by_cases h5 : x < 5
  · rw [hless h5]
    clear hless heven hmore hr hi hx h0 hL
    go_enter Tryz.func91, Tryz.ntmps91
    go_wp2_with fail
    go_ret
    exact ⟨rfl, rfl⟩
  · have HR := Lib.hid hr; have HI := Lib.hid hi; have HE := Lib.hid heven; have HM := Lib.hid (hmore (by omega)); have HL := Lib.hid hL
    obtain ⟨r, hrr⟩ : ∃ r, hC xs = r := ⟨_, rfl⟩
    rw [hrr] at HE HM ⊢
    have HRR := Lib.hid hrr
    clear hless heven hmore hr hi hx h0 hL hl hrr
    go_enter Tryz.func91, Tryz.ntmps91
    go_wp2_with fail
    go_loopg [3] L (fun g i wr => ∃ k : Nat, i = .int .i64 k ∧ k + g = L ∧ Hid (∀ j, j < k → xs[j]?.getD 0 = 0) ∧ w = wr)
    case atStart => exact ⟨0, rfl, by omega, fun j hj => absurd hj (by omega), rfl⟩
    case round =>
      obtain ⟨k, rfl, hkg, HZ, rfl⟩ := hrel
      by_cases hk : gk = 0
      · obtain rfl : k = L := by omega
        have HQ := Lib.hid (HE.out (val_take_zero _ HZ.out))
        clear hk hkg
        go_wp2_with (go_at_call 159; (with_reducible refine (compare_ref _ _ _).mono ?_); rintro e w' ⟨rfl, rfl⟩)
        go_ret
        exact ⟨by rw [HQ.out]; rfl, rfl⟩
      · obtain ⟨g, rfl⟩ : ∃ g, gk = g + 1 := ⟨gk - 1, by omega⟩
        have hkL : k < L := by omega
        obtain ⟨a', ha', hck⟩ := HR.out k (by have := HL.out; omega)
        cases ha'
        by_cases hz : xs[k]?.getD 0 = 0
        · have HZ' := Lib.hid hz
          rw [hz] at hck
          clear hz hk
          go_wp2_with fail
          go_roundg g
          case measure => omega
          case rel =>
            refine ⟨k + 1, by go_num, by omega, fun j hj => ?_, rfl⟩
            by_cases e : j = k
            · subst e; exact HZ'.out
            · exact HZ.out j (by omega)
        · have HQ := Lib.hid (HM.out (val_take_pos HI.out hkL hz))
          have hyy : (xs[k]?.getD 0 != 0) = true := by simpa using hz
          obtain ⟨y, hy⟩ : ∃ y, xs[k]?.getD 0 = y := ⟨_, rfl⟩
          rw [hy] at hck hyy
          clear hz hk hy
          go_wp2_with fail
          go_ret
          exact ⟨by rw [HQ.out]; rfl, rfl⟩

set_option maxRecDepth 100000 in
set_option maxHeartbeats 2000000 in
theorem number_c (A : Option Addr) (c : Nat) (xs : List Int) (w : World) (hr : Row .i64 w A xs) (hi : InR 10 xs) (hl : xs.length ≤ 17) :
    Calls Tryz.prog 92 #[.slice A xs.length c] w fun e w' => e = .returned (.int .i64 (val 10 xs)) ∧ w = w' := by
  have HR := Lib.hid hr; have HI := Lib.hid hi
  obtain ⟨L, hL⟩ : ∃ L, xs.length = L := ⟨_, rfl⟩
  rw [hL] at hl ⊢
  have HL := Lib.hid hL
  clear hr hi hL
  go_enter Tryz.func92, Tryz.ntmps92
  go_wp2_with fail
  go_loopg [3, 4] L (fun g m i wr => i = .int .i64 ((g : Int) - 1) ∧ g ≤ L ∧ m = .int .i64 (val 10 (xs.drop g)) ∧ w = wr)
  case atStart => exact ⟨rfl, Nat.le_refl _, by rw [List.drop_of_length_le (by have := HL.out; omega)]; rfl, rfl⟩
  case round =>
    obtain ⟨rfl, hg, rfl, rfl⟩ := hrel
    by_cases h0 : gk = 0
    · subst h0
      rw [List.drop_zero]
      go_wp2_with fail
      go_ret
      exact ⟨rfl, rfl⟩
    · obtain ⟨g, rfl⟩ : ∃ g, gk = g + 1 := ⟨gk - 1, by omega⟩
      rw [show (((g + 1 : Nat) : Int) - 1) = (g : Int) by omega]
      obtain ⟨a, rfl, hcell⟩ := HR.out g (by have := HL.out; omega)
      have hst := val_drop 10 xs g (by have := HL.out; omega)
      rw [List.getD_eq_getElem?_getD] at hst
      have hd := HI.out.at_ (by decide) g
      rw [List.getD_eq_getElem?_getD] at hd
      have hv0 := val_nonneg (HI.out.drop (g + 1))
      have hv1 := val_lt (HI.out.drop (g + 1))
      have hpw : (10 : Int) ^ (xs.drop (g + 1)).length ≤ 10 ^ 16 := by
        have := pow_mono' (b := 10) (by decide) (i := (xs.drop (g + 1)).length) (j := 16) (by have := HL.out; simp; omega)
        exact this
      obtain ⟨x, hx⟩ : ∃ x, xs[g]?.getD 0 = x := ⟨_, rfl⟩
      obtain ⟨m, hm⟩ : ∃ m, val 10 (xs.drop (g + 1)) = m := ⟨_, rfl⟩
      rw [hx, hm] at hst
      rw [hx] at hd hcell
      rw [hm] at hv0 hv1 ⊢
      have hm1 : m < 10000000000000000 := by
        have h9 : m < 10 ^ (xs.drop (g + 1)).length := hv1
        have : (10 : Int) ^ 16 = 10000000000000000 := by decide
        omega
      obtain ⟨hd0, hd1⟩ := hd
      have hd2 : x < 10 := hd1
      have HST := Lib.hid hst
      clear hst hx hm hv1 hpw hd1
      go_wp2_with fail
      go_roundg g
      case measure => omega
      case rel =>
        refine ⟨rfl, by omega, ?_, rfl⟩
        rw [HST.out, show ((10 : Nat) : Int) = 10 from rfl, Int.add_comm]


set_option maxRecDepth 100000 in
set_option maxHeartbeats 2000000 in
theorem signed_c (s : Bool) (m : Nat) (e : Int) (w : World) (hm : m ≤ 1000000000000) :
    Calls Tryz.prog 123 #[.bool s, .agg #[.int .i64 m, .int .i64 e]] w fun en w' => en = .returned (.agg #[.int .i64 (sgm s m), .int .i64 e, .bool true]) ∧ Below w.heap.size w w' := by
  obtain ⟨W, hW, k0, k1, hbel, hsz⟩ := bx2h w #[.int .i64 m, .int .i64 e] #[.int .i64 0, .int .i64 0, .bool false] 23 30
  have BOX := box3 k1
  have FIN := fin3 k1 (by omega) hbel
  obtain ⟨c0, c1⟩ := two_cells k0
  have f0 := free_of_heap k0 0; have f1 := free_of_heap k0 1
  obtain ⟨d0, d1, d2, g0, g1, g2⟩ := BOX.out W (Below.refl _ _)
  have HBEL := Lib.hid hbel; have HK1 := Lib.hid k1
  clear k0 k1 hbel
  cases s
  · rw [show sgm false m = (m : Int) from rfl]
    go_enter Tryz.func123, Tryz.ntmps123
    go_wp2_with fail
    obtain ⟨r0, r1, r2, hbb⟩ := FIN.out W (.int .i64 m) (.int .i64 e) (.bool true) (Below.refl _ _)
    refine bodyPost_ret (v := .agg #[.int .i64 m, .int .i64 e, .bool true]) (by simp [results, Tryz.results123, go_sem, r0, r1, r2]) rfl ?_
    exact ⟨rfl, hbb⟩
  · rw [show sgm true m = -(m : Int) from rfl]
    go_enter Tryz.func123, Tryz.ntmps123
    go_wp2_with fail
    have h9 := putB (putB (putB ((Below.heap_setCell W ⟨w.heap.size, 0, none⟩ (.int .i64 (-(m : Int))) (w.heap.size + 1) (by simp)).trans HK1.out) 0 (.int .i64 (-(m : Int)))) 1 (.int .i64 e)) 2 (.bool true)
    have r0 := cell_of_heap h9 0; have r1 := cell_of_heap h9 1; have r2 := cell_of_heap h9 2
    simp at r0 r1 r2
    refine bodyPost_ret (v := .agg #[.int .i64 (-(m : Int)), .int .i64 e, .bool true]) (by simp [results, Tryz.results123, go_sem, r0, r1, r2]) rfl ?_
    exact ⟨rfl, (((HBEL.out.setCell (p := ⟨w.heap.size, 0, none⟩) (Nat.le_refl _) _).setCell (p := ⟨w.heap.size + 1, 0, none⟩) (by simp) _).setCell (p := ⟨w.heap.size + 1, 1, none⟩) (by simp) _).setCell (p := ⟨w.heap.size + 1, 2, none⟩) (by simp) _⟩
end Go.Proofs.YtekbfommnmikbaaGreatDoor
/- The reference of layer 2: Round. -/
namespace Go.Proofs.YtekbfommnmikbaaGreatDoor
set_option linter.unusedVariables false
set_option linter.unusedSimpArgs false
open Go.RowKit Go.Shelf Go.Proofs
attribute [local go_sem ↓] Go.wp_at_zero Go.wp_at_succ

theorem hC_pos (N : Nat) : 0 < hC (dg 10 N) ↔ 10 ^ nd N < 2 * N := by
  unfold hC
  rw [val_dg (by decide)]
  have e : ((10 ^ nd N : Nat) : Int) = 10 ^ (dg 10 N).length := by rw [Int.natCast_pow]; rfl
  rw [← e]
  unfold sgn
  constructor
  · intro h
    by_cases h1 : (2 * (N : Int) - ((10 ^ nd N : Nat) : Int)) < 0
    · rw [if_pos h1] at h; omega
    · rw [if_neg h1] at h
      by_cases h2 : 0 < (2 * (N : Int) - ((10 ^ nd N : Nat) : Int))
      · omega
      · rw [if_neg h2] at h; omega
  · intro h
    rw [if_neg (by omega), if_pos (by omega)]; decide
/-- Rounding by what half says. -/
theorem hC_up {ys : List Int} (hi : InR 10 ys) {j : Nat} (hj : j ≤ ys.length) {Y : Nat} (hY : val 10 ys = (Y : Int)) :
    ∃ q : Nat, val 10 (ys.drop j) = (q : Int) ∧ q = Y / 10 ^ j ∧ (if 0 < hC (ys.take j) ∨ (hC (ys.take j) = 0 ∧ q % 2 = 1) then q + 1 else q) = rdiv Y j := by
  have h1 := val_take_drop 10 ys j hj
  have h2 := val_lt (hi.take j)
  have h3 := val_nonneg (hi.take j)
  have h4 := val_nonneg (hi.drop j)
  have hl : (ys.take j).length = j := by rw [List.length_take]; omega
  obtain ⟨q, hq⟩ := Int.eq_ofNat_of_zero_le h4
  obtain ⟨r, hr⟩ := Int.eq_ofNat_of_zero_le h3
  have hp : 0 < 10 ^ j := Nat.pow_pos (by decide)
  rw [hl, hr] at h2
  rw [hY, hr, hq] at h1
  have h1' : Y = r + 10 ^ j * q := by
    have : (Y : Int) = ((r + 10 ^ j * q : Nat) : Int) := by rw [h1, Int.natCast_add, Int.natCast_mul, Int.natCast_pow]
    exact Int.ofNat_inj.1 this
  have h2' : r < 10 ^ j := by
    have : ((r : Nat) : Int) < ((10 ^ j : Nat) : Int) := by rw [Int.natCast_pow]; exact h2
    exact Int.ofNat_lt.1 this
  have eq1 : Y / 10 ^ j = q := by rw [h1', Nat.add_mul_div_left _ _ hp, Nat.div_eq_of_lt h2', Nat.zero_add]
  have eq2 : Y % 10 ^ j = r := by rw [h1', Nat.add_mul_mod_self_left, Nat.mod_eq_of_lt h2']
  refine ⟨q, hq, eq1.symm, ?_⟩
  have hh : hC (ys.take j) = sgn (2 * (r : Int) - ((10 ^ j : Nat) : Int)) := by
    unfold hC; rw [hl, hr, Int.natCast_pow]; rfl
  unfold rdiv halfUp
  rw [eq1, eq2, hh]
  generalize 10 ^ j = p at *
  unfold sgn
  by_cases a : 2 * (r : Int) - (p : Int) < 0
  · rw [if_pos a, if_neg (by omega), if_neg (by omega)]; rfl
  · by_cases b : 0 < 2 * (r : Int) - (p : Int)
    · rw [if_neg a, if_pos b, if_pos (.inl (by decide)), if_pos (.inl (by omega))]
    · rw [if_neg a, if_neg b]
      by_cases c : q % 2 = 1
      · rw [if_pos (.inr ⟨rfl, c⟩), if_pos (.inr ⟨by omega, c⟩)]
      · rw [if_neg (by omega), if_neg (by omega)]; rfl

set_option maxRecDepth 100000 in
set_option maxHeartbeats 8000000 in
theorem sround_c (v : Value) (z e : Int) (w : World) (h : Dc w v z e) (hl : (dg 10 z.natAbs).length ≤ 1000000) (he0 : -1000000000 ≤ e) (he1 : e ≤ 1000000000) :
    Calls Tryz.prog 50 #[v] w fun en w' => en = .returned (rdV (rndS z e)) ∧ Below w.heap.size w w' := by
  obtain ⟨A, L, c, b, rfl, hri⟩ := h
  obtain ⟨hL, hb⟩ := ri_parts hri
  obtain ⟨p, hp, hdg⟩ := hri
  obtain ⟨A', c', he', hlc, hcm, hrow⟩ := hdg
  cases hp
  cases he'
  obtain ⟨N, hN⟩ : ∃ N, z.natAbs = N := ⟨_, rfl⟩
  unfold rndS
  rw [hN] at hl hrow hlc ⊢
  obtain ⟨s, hs⟩ : ∃ s, decide (z < 0) = s := ⟨_, rfl⟩
  rw [hs]
  clear hL hb hN hs z
  obtain ⟨W, hW, k0, k1, hbel, hsz⟩ := bx2h w #[.slice A (dg 10 N).length c, .bool s, .int .i64 e] #[.int .i64 0, .int .i64 0, .bool false] 60 30
  obtain ⟨c0, c1, c2⟩ := three_cells k0
  have BOX := box3 k1
  have FIN := fin3 k1 (by omega) hbel
  obtain ⟨d0, d1, d2, g0, g1, g2⟩ := BOX.out W (Below.refl _ _)
  have HBEL := Lib.hid hbel
  have HROW := Lib.hid (hrow.below hbel)
  have HIN := Lib.hid (dg_inR (b := 10) (by decide) N)
  have HV := Lib.hid (val_dg (b := 10) (by decide) N)
  have HSZ := Lib.hid hsz
  clear k0 k1 hbel hrow hsz
  by_cases hN0 : N = 0
  · subst hN0
    rw [dg_zero] at hW c0 ⊢
    simp only [List.length_nil] at hW c0 ⊢
    have hr : rdV (sgo s (rnd 0 e)) = .agg #[.int .i64 0, .int .i64 0, .bool true] := by rw [rnd_zero]; cases s <;> rfl
    rw [hr]
    clear hr hl hlc
    go_enter Tryz.func50, Tryz.ntmps50
    go_wp2_with fail
    obtain ⟨r0, r1, r2, hbb⟩ := FIN.out W (.int .i64 0) (.int .i64 0) (.bool true) (Below.refl _ _)
    refine bodyPost_ret (v := .agg #[.int .i64 0, .int .i64 0, .bool true]) (by simp [results, Tryz.results50, go_sem, r0, r1, r2]) rfl ?_
    exact ⟨rfl, hbb⟩
  have hnd0 := nd_pos (show 0 < N by omega)
  have HCP := Lib.hid (hC_pos N)
  have hrdef : rnd N e = if (nd N : Int) + e < -100 then some (0, 0) else if (nd N : Int) + e = -100 then (if 10 ^ nd N < 2 * N then some (100000000000, -111) else some (0, 0)) else fit (man12 N) ((nd N : Int) - 12 + e) := by
    unfold rnd
    by_cases a : (nd N : Int) + e < -100
    · rw [if_pos (.inr a), if_pos a]
    · rw [if_neg (by omega), if_neg a]
  rw [hrdef]
  clear hrdef
  have hmr := man12_rng (show 0 < N by omega)
  have hm12 : man12 N = if nd N < 12 then N * 10 ^ (12 - nd N) else rdiv N (nd N - 12) := rfl
  have HLT := Lib.hid (lt_nd N)
  obtain ⟨L, hL⟩ : ∃ L, nd N = L := ⟨_, rfl⟩
  have hL' : (dg 10 N).length = L := hL
  rw [hL] at hnd0 hm12 HLT HCP ⊢
  rw [hL'] at hl hlc c0 hW ⊢
  have HLL := Lib.hid hL'
  have hL0 : ((L : Int) == 0) = false := by rw [beq_eq_false_iff_ne]; omega
  clear hL hL'
  by_cases a : (L : Int) + e < -100
  · rw [if_pos a]
    have hr : rdV (sgo s (some (0, 0))) = .agg #[.int .i64 0, .int .i64 0, .bool true] := by cases s <;> rfl
    rw [hr]
    clear hr hm12 hmr hN0
    go_enter Tryz.func50, Tryz.ntmps50
    go_wp2_with fail
    obtain ⟨r0, r1, r2, hbb⟩ := FIN.out W (.int .i64 0) (.int .i64 0) (.bool true) (Below.refl _ _)
    refine bodyPost_ret (v := .agg #[.int .i64 0, .int .i64 0, .bool true]) (by simp [results, Tryz.results50, go_sem, r0, r1, r2]) rfl ?_
    exact ⟨rfl, hbb⟩
  rw [if_neg a]
  by_cases a2 : (L : Int) + e = -100
  · rw [if_pos a2]
    have HH := Lib.hid (fun w' (hb : Below W.heap.size W w') => half_c A c (dg 10 N) w' (HROW.out.below hb) HIN.out (by rw [HLL.out]; exact hl))
    rw [HLL.out] at HH
    obtain ⟨k, hk⟩ : ∃ k, hC (dg 10 N) = k := ⟨_, rfl⟩
    rw [hk] at HH HCP
    have a2b : ((L : Int) + e == -100) = true := by rw [beq_iff_eq]; exact a2
    have a3 : ¬ (L : Int) + e < -100 := a
    by_cases hk0 : 0 < k
    · rw [if_pos (HCP.out.1 hk0)]
      show Calls Tryz.prog 50 _ w fun en w' => en = .returned (.agg #[.int .i64 (sgm s 100000000000), .int .i64 (-111), .bool true]) ∧ Below w.heap.size w w'
      have HSG : Hid (∀ w' : World, Calls Tryz.prog 123 #[.bool s, .agg #[.int .i64 100000000000, .int .i64 (-111)]] w' fun en w2 => en = .returned (.agg #[.int .i64 (sgm s 100000000000), .int .i64 (-111), .bool true]) ∧ Below w'.heap.size w' w2) := fun w' => signed_c s 100000000000 (-111) w' (by decide)
      clear hm12 hmr hN0 hk a2 a
      go_enter Tryz.func50, Tryz.ntmps50
      go_wp2_with (first
        | (go_at_call 91; (with_reducible refine (HH.out _ (Below.refl _ _)).mono ?_); rintro en w' ⟨rfl, rfl⟩)
        | (go_at_call 123; (with_reducible refine (HSG.out _).mono ?_); rintro en w3 ⟨rfl, hbz⟩; have HB := Lib.hid hbz; obtain ⟨d0, d1, d2, g0, g1, g2⟩ := BOX.out _ hbz; clear hbz))
      obtain ⟨r0, r1, r2, hbb⟩ := FIN.out _ (.int .i64 (sgm s 100000000000)) (.int .i64 (-111)) (.bool true) HB.out
      refine bodyPost_ret (v := .agg #[.int .i64 (sgm s 100000000000), .int .i64 (-111), .bool true]) (by simp [results, Tryz.results50, go_sem, r0, r1, r2]) rfl ?_
      exact ⟨rfl, hbb⟩
    · rw [if_neg (fun x => hk0 (HCP.out.2 x))]
      have hr : rdV (sgo s (some (0, 0))) = .agg #[.int .i64 0, .int .i64 0, .bool true] := by cases s <;> rfl
      rw [hr]
      clear hr hm12 hmr hN0 hk a2 a
      go_enter Tryz.func50, Tryz.ntmps50
      go_wp2_with (go_at_call 91; (with_reducible refine (HH.out _ (Below.refl _ _)).mono ?_); rintro en w' ⟨rfl, rfl⟩)
      obtain ⟨r0, r1, r2, hbb⟩ := FIN.out W (.int .i64 0) (.int .i64 0) (.bool true) (Below.refl _ _)
      refine bodyPost_ret (v := .agg #[.int .i64 0, .int .i64 0, .bool true]) (by simp [results, Tryz.results50, go_sem, r0, r1, r2]) rfl ?_
      exact ⟨rfl, hbb⟩
  rw [if_neg a2]
  have a2b : ((L : Int) + e == -100) = false := by rw [beq_eq_false_iff_ne]; exact a2
  obtain ⟨M, hM⟩ : ∃ M, man12 N = M := ⟨_, rfl⟩
  rw [hM] at hm12 hmr ⊢
  have HM := Lib.hid hm12
  clear hm12 hM a2
  go_enter Tryz.func50, Tryz.ntmps50
  go_upto_if 39 with fail
  go_cut [3] from 38 to 44 (fun v3 wx => ∃ (A3 : Option Addr) (n3 c3 : Nat) (ys : List Int), v3 = .slice A3 n3 c3 ∧ 12 ≤ n3 ∧ n3 ≤ c3 ∧ c3 ≤ 9223372036854775807 ∧ n3 ≤ 1000000 ∧ Hid (ys.length = n3 ∧ Row .i64 wx A3 ys ∧ InR 10 ys ∧ ∃ Y : Nat, val 10 ys = (Y : Int) ∧ rdiv Y (n3 - 12) = M) ∧ Hid (Below W.heap.size W wx))
  case first =>
    by_cases h12 : L < 12
    · obtain ⟨k, hk⟩ : ∃ k, k + L = 12 := ⟨12 - L, by omega⟩
      have hmk := make_nat k (12 - (L : Int)) (by omega) (by omega)
      have h12i : (L : Int) < 12 := by omega
      have HK := Lib.hid hk
      clear hk
      go_wp2_with (at_builtin; refine append_nat _ rfl _ _ rfl W.heap.size _ k (List.replicate k 0) rfl (own_zeros W k (by have := HK.out; omega)) A c (dg 10 N) (by rw [HLL.out]; rfl) (HROW.out.alloc _) (by rw [HLL.out]; have := HK.out; omega) (by simp) ?_; intro v' w' hown hgrow; obtain ⟨A3, c3, e3, q1, q2, q3, q4⟩ := own_row hown; subst e3; have HG := Lib.hid hgrow; have HQ3 := Lib.hid q3; have HQ := Lib.hid (And.intro q1 (And.intro q2 q4)); clear hown hgrow q1 q2 q3 q4)
      go_meet
      have hlen : (List.replicate k (0 : Int) ++ dg 10 N).length = 12 := by rw [List.length_append, List.length_replicate, HLL.out, HK.out]
      refine ⟨A3, 12, c3, List.replicate k 0 ++ dg 10 N, by rw [HLL.out, HK.out], by omega, by have := HQ.out.1; rw [hlen] at this; exact this, by have := HQ.out.2.1; unfold maxLen at this; omega, by omega, ⟨hlen, HQ3.out, (InR.replicate (by decide) _).append HIN.out, N * 10 ^ k, ?_, ?_⟩, ?_⟩
      · rw [val_append, val_replicate, HV.out, List.length_replicate, Int.natCast_mul, Int.natCast_pow, Int.zero_add, Int.mul_comm]
      · rw [show 12 - 12 = 0 from rfl, rdiv_zero, HM.out, if_pos h12, show 12 - L = k by have := HK.out; omega]
      · exact ((Below.refl _ _).alloc (Nat.le_refl _) _).grown HG.out (by simp) (fun g hg => by cases hg; exact Nat.le_refl _)
    · have h12i : ¬ (L : Int) < 12 := by omega
      go_wp2_with fail
      go_meet
      exact ⟨A, L, c, dg 10 N, rfl, by omega, hlc, hcm, hl, ⟨HLL.out, HROW.out, HIN.out, N, HV.out, by rw [HM.out, if_neg h12]⟩, Below.refl _ _⟩
  case rest =>
    obtain ⟨A3, n3, c3, ys, rfl, h12, hnc, hcm3, hn3, HYS, HB⟩ := hcut
    obtain ⟨T, hT⟩ : ∃ T, wc = T := ⟨_, rfl⟩
    rw [hT] at HYS HB ⊢
    clear hT
    have c0 := keep_cell HB.out c0; have c1 := keep_cell HB.out c1; have c2 := keep_cell HB.out c2
    obtain ⟨hyl, hyr, hyi, Y, hyv, hyM⟩ := HYS.out
    obtain ⟨j, rfl⟩ : ∃ j, n3 = j + 12 := ⟨n3 - 12, by omega⟩
    obtain ⟨a3, rfl, -⟩ := hyr 0 (by omega)
    obtain ⟨q, hq, hqd, hup⟩ := hC_up hyi (j := j) (by omega) hyv
    rw [show j + 12 - 12 = j by omega] at hyM
    rw [hyM] at hup
    have hjt : (ys.take j).length = j := by rw [List.length_take]; omega
    have hjd : (ys.drop j).length = 12 := by rw [List.length_drop]; omega
    have hdi := hyi.drop j
    have hti := hyi.take j
    have hrd : Row .i64 T (some (a3.add j)) (ys.drop j) := row_add j hyr
    have hrt : Row .i64 T (some a3) (ys.take j) := fun i hi => by
      obtain ⟨a', e, hc⟩ := hyr i (by rw [hjt] at hi; omega)
      refine ⟨a', e, ?_⟩
      rw [hc, List.getElem?_take, if_pos (by rw [hjt] at hi; exact hi)]
    have HNUM : Hid (Calls Tryz.prog 92 #[.slice (some (a3.add j)) 12 (c3 - j)] T fun e w' => e = .returned (.int .i64 (q : Int)) ∧ T = w') := by
      have := number_c (some (a3.add j)) (c3 - j) (ys.drop j) T hrd hdi (by omega)
      rw [hjd, hq] at this
      exact this
    obtain ⟨k, hk⟩ : ∃ k, hC (ys.take j) = k := ⟨_, rfl⟩
    have HHALF : Hid (Calls Tryz.prog 91 #[.slice (some a3) j c3] T fun e w' => e = .returned (.int .i64 k) ∧ T = w') := by
      have := half_c (some a3) c3 (ys.take j) T hrt hti (by omega)
      rw [hjt, hk] at this
      exact this
    rw [hk] at hup
    have hqlt : q < 1000000000000 := by
      have := val_lt hdi
      rw [hjd, hq] at this
      have h9 : (q : Int) < 10 ^ 12 := this
      have : (10 : Int) ^ 12 = 1000000000000 := by decide
      omega
    have HUP := Lib.hid hup
    have HQD := Lib.hid hqd
    clear hup hq hqd hyl hyr hyi hyv hyM hjt hjd hdi hti hrd hrt hk
    go_upto_region 14 with (first
      | (go_at_call 92; (with_reducible refine HNUM.out.mono ?_); rintro en w' ⟨rfl, rfl⟩)
      | (go_at_call 91; (with_reducible refine HHALF.out.mono ?_); rintro en w' ⟨rfl, rfl⟩))
    obtain ⟨B, hB⟩ : ∃ B : Bool, (B = true ↔ (0 < k ∨ (k = 0 ∧ q % 2 = 1))) := ⟨decide (0 < k ∨ (k = 0 ∧ q % 2 = 1)), by simp⟩
    have HBB := Lib.hid hB
    clear hB
    go_cut [66] from 56 to 66 (fun v wx => v = .bool B ∧ wx = T)
    case first =>
      by_cases hk0 : 0 < k
      · obtain rfl : B = true := HBB.out.2 (.inl hk0)
        go_wp2_with fail
        go_meet
        exact ⟨rfl, rfl⟩
      · by_cases hkz : k = 0
        · subst hkz
          by_cases hq2 : q % 2 = 1
          · obtain rfl : B = true := HBB.out.2 (.inr ⟨rfl, hq2⟩)
            have hqb : ((q : Int) % 2 == 1) = true := by rw [beq_iff_eq]; omega
            clear hq2 hk0
            go_wp2_with fail
            go_meet
            exact ⟨rfl, rfl⟩
          · obtain rfl : B = false := by
              cases B
              · rfl
              · have := HBB.out.1 rfl; omega
            have hqb : ((q : Int) % 2 == 1) = false := by rw [beq_eq_false_iff_ne]; omega
            clear hq2 hk0
            go_wp2_with fail
            go_meet
            exact ⟨rfl, rfl⟩
        · obtain rfl : B = false := by
            cases B
            · rfl
            · have := HBB.out.1 rfl; omega
          have hkb : (k == 0) = false := by rw [beq_eq_false_iff_ne]; exact hkz
          clear hkz
          go_wp2_with fail
          go_meet
          exact ⟨rfl, rfl⟩
    case rest =>
      obtain ⟨rfl, hT⟩ := hcut
      rw [hT]
      clear hT
      cases B
      · have hM : M = q := by
          have := HUP.out
          rw [if_neg (fun x => by have := HBB.out.2 x; cases this)] at this
          exact this.symm
        subst hM
        by_cases hMM : M = 1000000000000
        · have hx1 : ((M : Int) == 1000000000000) = true := by rw [beq_iff_eq]; omega
          by_cases hX : 88 < (L : Int) - 12 + e + 1
          · have HFIT : Hid (rdV (sgo s (fit M ((L : Int) - 12 + e))) = .agg #[.int .i64 0, .int .i64 0, .bool false]) := by show _ = _; unfold fit; rw [if_pos hMM, if_pos hX]; rfl
            obtain ⟨d0, d1, d2, g0, g1, g2⟩ := BOX.out _ HB.out
            clear hMM
            go_wp2_with fail
            obtain ⟨r0, r1, r2, hbb⟩ := FIN.out _ (.int .i64 0) (.int .i64 0) (.bool false) HB.out
            refine bodyPost_ret (v := .agg #[.int .i64 0, .int .i64 0, .bool false]) (by simp [results, Tryz.results50, go_sem, r0, r1, r2]) rfl ?_
            exact ⟨by rw [HFIT.out], hbb⟩
          · have HFIT : Hid (rdV (sgo s (fit M ((L : Int) - 12 + e))) = .agg #[.int .i64 (sgm s 100000000000), .int .i64 ((L : Int) - 12 + e + 1), .bool true]) := by show _ = _; unfold fit; rw [if_pos hMM, if_neg hX]; rfl
            have HSG : Hid (∀ w' : World, Calls Tryz.prog 123 #[.bool s, .agg #[.int .i64 100000000000, .int .i64 ((L : Int) - 12 + e + 1)]] w' fun en w2 => en = .returned (.agg #[.int .i64 (sgm s 100000000000), .int .i64 ((L : Int) - 12 + e + 1), .bool true]) ∧ Below w'.heap.size w' w2) := fun w' => signed_c s 100000000000 ((L : Int) - 12 + e + 1) w' (by decide)
            clear hMM
            go_wp2_with (go_at_call 123; (with_reducible refine (HSG.out _).mono ?_); rintro en w3 ⟨rfl, hbz⟩; have HB3 := Lib.hid (belowT HB.out hbz); obtain ⟨d0, d1, d2, g0, g1, g2⟩ := BOX.out _ HB3.out; clear hbz)
            obtain ⟨r0, r1, r2, hbb⟩ := FIN.out _ (.int .i64 (sgm s 100000000000)) (.int .i64 ((L : Int) - 12 + e + 1)) (.bool true) HB3.out
            refine bodyPost_ret (v := .agg #[.int .i64 (sgm s 100000000000), .int .i64 ((L : Int) - 12 + e + 1), .bool true]) (by simp [results, Tryz.results50, go_sem, r0, r1, r2]) rfl ?_
            exact ⟨by rw [HFIT.out], hbb⟩
        · have hx1 : ((M : Int) == 1000000000000) = false := by rw [beq_eq_false_iff_ne]; omega
          by_cases hX : 88 < (L : Int) - 12 + e
          · have HFIT : Hid (rdV (sgo s (fit M ((L : Int) - 12 + e))) = .agg #[.int .i64 0, .int .i64 0, .bool false]) := by show _ = _; unfold fit; rw [if_neg hMM, if_pos hX]; rfl
            obtain ⟨d0, d1, d2, g0, g1, g2⟩ := BOX.out _ HB.out
            clear hMM
            go_wp2_with fail
            obtain ⟨r0, r1, r2, hbb⟩ := FIN.out _ (.int .i64 0) (.int .i64 0) (.bool false) HB.out
            refine bodyPost_ret (v := .agg #[.int .i64 0, .int .i64 0, .bool false]) (by simp [results, Tryz.results50, go_sem, r0, r1, r2]) rfl ?_
            exact ⟨by rw [HFIT.out], hbb⟩
          · have HFIT : Hid (rdV (sgo s (fit M ((L : Int) - 12 + e))) = .agg #[.int .i64 (sgm s M), .int .i64 ((L : Int) - 12 + e), .bool true]) := by show _ = _; unfold fit; rw [if_neg hMM, if_neg hX]; rfl
            have HSG := Lib.hid (fun w' => signed_c s M ((L : Int) - 12 + e) w' (by omega))
            clear hMM
            go_wp2_with (go_at_call 123; (with_reducible refine (HSG.out _).mono ?_); rintro en w3 ⟨rfl, hbz⟩; have HB3 := Lib.hid (belowT HB.out hbz); obtain ⟨d0, d1, d2, g0, g1, g2⟩ := BOX.out _ HB3.out; clear hbz)
            obtain ⟨r0, r1, r2, hbb⟩ := FIN.out _ (.int .i64 (sgm s M)) (.int .i64 ((L : Int) - 12 + e)) (.bool true) HB3.out
            refine bodyPost_ret (v := .agg #[.int .i64 (sgm s M), .int .i64 ((L : Int) - 12 + e), .bool true]) (by simp [results, Tryz.results50, go_sem, r0, r1, r2]) rfl ?_
            exact ⟨by rw [HFIT.out], hbb⟩
      · have hM : M = q + 1 := by
          have := HUP.out
          rw [if_pos (HBB.out.1 rfl)] at this
          exact this.symm
        subst hM
        by_cases hMM : q + 1 = 1000000000000
        · have hx1 : ((q : Int) + 1 == 1000000000000) = true := by rw [beq_iff_eq]; omega
          by_cases hX : 88 < (L : Int) - 12 + e + 1
          · have HFIT : Hid (rdV (sgo s (fit (q + 1) ((L : Int) - 12 + e))) = .agg #[.int .i64 0, .int .i64 0, .bool false]) := by show _ = _; unfold fit; rw [if_pos hMM, if_pos hX]; rfl
            obtain ⟨d0, d1, d2, g0, g1, g2⟩ := BOX.out _ HB.out
            clear hMM
            go_wp2_with fail
            obtain ⟨r0, r1, r2, hbb⟩ := FIN.out _ (.int .i64 0) (.int .i64 0) (.bool false) HB.out
            refine bodyPost_ret (v := .agg #[.int .i64 0, .int .i64 0, .bool false]) (by simp [results, Tryz.results50, go_sem, r0, r1, r2]) rfl ?_
            exact ⟨by rw [HFIT.out], hbb⟩
          · have HFIT : Hid (rdV (sgo s (fit (q + 1) ((L : Int) - 12 + e))) = .agg #[.int .i64 (sgm s 100000000000), .int .i64 ((L : Int) - 12 + e + 1), .bool true]) := by show _ = _; unfold fit; rw [if_pos hMM, if_neg hX]; rfl
            have HSG : Hid (∀ w' : World, Calls Tryz.prog 123 #[.bool s, .agg #[.int .i64 100000000000, .int .i64 ((L : Int) - 12 + e + 1)]] w' fun en w2 => en = .returned (.agg #[.int .i64 (sgm s 100000000000), .int .i64 ((L : Int) - 12 + e + 1), .bool true]) ∧ Below w'.heap.size w' w2) := fun w' => signed_c s 100000000000 ((L : Int) - 12 + e + 1) w' (by decide)
            clear hMM
            go_wp2_with (go_at_call 123; (with_reducible refine (HSG.out _).mono ?_); rintro en w3 ⟨rfl, hbz⟩; have HB3 := Lib.hid (belowT HB.out hbz); obtain ⟨d0, d1, d2, g0, g1, g2⟩ := BOX.out _ HB3.out; clear hbz)
            obtain ⟨r0, r1, r2, hbb⟩ := FIN.out _ (.int .i64 (sgm s 100000000000)) (.int .i64 ((L : Int) - 12 + e + 1)) (.bool true) HB3.out
            refine bodyPost_ret (v := .agg #[.int .i64 (sgm s 100000000000), .int .i64 ((L : Int) - 12 + e + 1), .bool true]) (by simp [results, Tryz.results50, go_sem, r0, r1, r2]) rfl ?_
            exact ⟨by rw [HFIT.out], hbb⟩
        · have hx1 : ((q : Int) + 1 == 1000000000000) = false := by rw [beq_eq_false_iff_ne]; omega
          by_cases hX : 88 < (L : Int) - 12 + e
          · have HFIT : Hid (rdV (sgo s (fit (q + 1) ((L : Int) - 12 + e))) = .agg #[.int .i64 0, .int .i64 0, .bool false]) := by show _ = _; unfold fit; rw [if_neg hMM, if_pos hX]; rfl
            obtain ⟨d0, d1, d2, g0, g1, g2⟩ := BOX.out _ HB.out
            clear hMM
            go_wp2_with fail
            obtain ⟨r0, r1, r2, hbb⟩ := FIN.out _ (.int .i64 0) (.int .i64 0) (.bool false) HB.out
            refine bodyPost_ret (v := .agg #[.int .i64 0, .int .i64 0, .bool false]) (by simp [results, Tryz.results50, go_sem, r0, r1, r2]) rfl ?_
            exact ⟨by rw [HFIT.out], hbb⟩
          · have HFIT : Hid (rdV (sgo s (fit (q + 1) ((L : Int) - 12 + e))) = .agg #[.int .i64 (sgm s ((q : Int) + 1)), .int .i64 ((L : Int) - 12 + e), .bool true]) := by show _ = _; unfold fit; rw [if_neg hMM, if_neg hX]; rfl
            have HSG := Lib.hid (fun w' => signed_c s (q + 1) ((L : Int) - 12 + e) w' (by omega))
            rw [Int.natCast_add, show ((1 : Nat) : Int) = 1 from rfl] at HSG
            clear hMM
            go_wp2_with (go_at_call 123; (with_reducible refine (HSG.out _).mono ?_); rintro en w3 ⟨rfl, hbz⟩; have HB3 := Lib.hid (belowT HB.out hbz); obtain ⟨d0, d1, d2, g0, g1, g2⟩ := BOX.out _ HB3.out; clear hbz)
            obtain ⟨r0, r1, r2, hbb⟩ := FIN.out _ (.int .i64 (sgm s ((q : Int) + 1))) (.int .i64 ((L : Int) - 12 + e)) (.bool true) HB3.out
            refine bodyPost_ret (v := .agg #[.int .i64 (sgm s ((q : Int) + 1)), .int .i64 ((L : Int) - 12 + e), .bool true]) (by simp [results, Tryz.results50, go_sem, r0, r1, r2]) rfl ?_
            exact ⟨by rw [HFIT.out], hbb⟩
end Go.Proofs.YtekbfommnmikbaaGreatDoor
