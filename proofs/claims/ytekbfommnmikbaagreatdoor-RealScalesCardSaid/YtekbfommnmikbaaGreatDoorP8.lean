/- Texts of this claim, merged: Inv, RegV, RegP, SpC, SpF, Ord, Mono, Sticky, RootP, MonoB. -/
import Derived.Test.YtekbfommnmikbaaGreatDoorP7
import Derived.RegionTactic
import Derived.Deep.RegionLawGrows
/- A region that draws its order, by what holds whatever has come up: one look at each operation. -/
namespace Go.Proofs.YtekbfommnmikbaaGreatDoor
set_option linter.unusedVariables false
set_option linter.unusedSimpArgs false

section
variable {P : Program} {ops : Array Oper} {Q : Exit → Act → World → Prop}

/-- What operation i waits for. -/
def predsOf (ops : Array Oper) (i : Nat) : List Nat := match ops[i]? with
  | some o => (o.after.toList.filter (Region.binds .any)).map (·.on)
  | none => []
/-- Each operation waits for earlier ones alone. -/
def backward (ops : Array Oper) : Bool := (List.range ops.size).all fun i => (predsOf ops i).all fun j => decide (j < i)

theorem pred_mem {i : Nat} {o : Oper} (ho : ops[i]? = some o) {e : Edge} (he : e ∈ o.after) (hb : Region.binds .any e = true) : e.on ∈ predsOf ops i := by
  unfold predsOf
  rw [ho]
  exact List.mem_map.2 ⟨e, List.mem_filter.2 ⟨by simpa using he, hb⟩, rfl⟩

theorem ready_nil {l : Array Bool} (hb : backward ops = true) (hr : Region.ready .any ops l = []) : ∀ i, i < ops.size → l.getD i true = true := by
  intro i
  induction i using Nat.strongRecOn with
  | _ i ih =>
    intro hi
    cases hl : l.getD i true with
    | true => rfl
    | false =>
      exfalso
      have hm : i ∈ Region.ready .any ops l := by
        refine mem_ready.2 ⟨hl, ops[i], by rw [Array.getElem?_eq_getElem hi], fun e he hbd => ?_⟩
        have hp := pred_mem (Array.getElem?_eq_getElem hi) he hbd
        have hlt : e.on < i := by
          have h1 := List.all_eq_true.1 hb i (List.mem_range.2 hi)
          exact of_decide_eq_true (List.all_eq_true.1 h1 _ hp)
        have h2 := ih _ hlt (by omega)
        by_cases hs : e.on < l.size
        · simp [hs] at h2 ⊢; exact h2
        · exfalso
          have : i < l.size ∨ ¬ i < l.size := Nat.lt_or_ge i l.size |>.imp id Nat.not_lt.2
          rcases this with h | h
          · omega
          · simp [h] at hl
      rw [hr] at hm
      cases hm

/-- Step p i, p (i+1), .. -/
def AllFrom (p : Nat → Prop) : Nat → Nat → Prop
  | _, 0 => True
  | i, n + 1 => p i ∧ AllFrom p (i + 1) n
theorem AllFrom.get {p : Nat → Prop} : ∀ (n i : Nat), AllFrom p i n → ∀ j, i ≤ j → j < i + n → p j
  | 0, _, _, _, h1, h2 => by omega
  | n + 1, i, h, j, h1, h2 => by
    by_cases e : j = i
    · subst e; exact h.1
    · exact AllFrom.get n (i + 1) h.2 j (by omega) (by omega)

theorem count_set {l : Array Bool} {i : Nat} (h : l.getD i true = false) : (l.setIfInBounds i true).toList.count false + 1 = l.toList.count false := by
  have hi : i < l.size := by
    rcases Nat.lt_or_ge i l.size with h' | h'
    · exact h'
    · simp [Array.getElem?_eq_none h'] at h
  have hv : l.toList[i]'(by simpa using hi) = false := by simpa [hi] using h
  have h1 : 0 < l.toList.count false := List.count_pos_iff.2 (hv ▸ List.getElem_mem _)
  have h2 : (l.setIfInBounds i true).toList.count false = l.toList.count false - 1 := by
    rw [Array.toList_setIfInBounds, List.count_set (by simpa using hi), hv]
    rfl
  omega

theorem wpAny_inv (I : Array Bool → Act → World → Prop) (hb : backward ops = true)
    (hs : ∀ i, i < ops.size → ∀ l a w, I l a w → (∀ j, (predsOf ops i).contains j = true → l.getD j false = true) → l.getD i true = false → wpOp P ops Q i (I (l.setIfInBounds i true)) a w)
    (he : ∀ l a w, (∀ i, i < ops.size → l.getD i false = true) → I l a w → Q .normal a w) :
    ∀ (fuel : Nat) (l : Array Bool) (a : Act) (w : World), l.size = ops.size → l.toList.count false ≤ fuel → I l a w → wpAny P .any ops Q fuel l a w := by
  intro fuel
  have hall : ∀ (l : Array Bool), l.size = ops.size → Region.ready .any ops l = [] → ∀ i, i < ops.size → l.getD i false = true := by
    intro l hl hr i hi
    have := ready_nil hb hr i hi
    simp [hl, hi] at this ⊢
    exact this
  induction fuel with
  | zero =>
    intro l a w hl hc hI
    have hr : Region.ready .any ops l = [] := by
      cases hr : Region.ready .any ops l with
      | nil => rfl
      | cons i t =>
        exfalso
        have hm : i ∈ Region.ready .any ops l := by rw [hr]; exact List.mem_cons_self
        have := count_set (mem_ready.1 hm).1
        omega
    exact ⟨hr, he l a w (hall l hl hr) hI⟩
  | succ fuel ih =>
    intro l a w hl hc hI
    refine ⟨fun hr => he l a w (hall l hl hr) hI, fun i hi => ?_⟩
    obtain ⟨h0, o, ho, hp⟩ := mem_ready.1 hi
    have hlt : i < ops.size := (Array.getElem?_eq_some_iff.1 ho).1
    refine wpOp_mono (fun a' w' h' => ih _ a' w' (by simpa using hl) (by have := count_set h0; omega) h') (hs i hlt l a w hI (fun j hj => ?_) h0)
    have hj' : j ∈ predsOf ops i := by simpa using hj
    unfold predsOf at hj'
    rw [ho] at hj'
    obtain ⟨e, he1, rfl⟩ := List.mem_map.1 hj'
    obtain ⟨he2, he3⟩ := List.mem_filter.1 he1
    exact hp e (by simpa using he2) he3

/-- One operation's duty. -/
def OpStep (P : Program) (ops : Array Oper) (Q : Exit → Act → World → Prop) (I : Array Bool → Act → World → Prop) (i : Nat) : Prop :=
  ∀ l a w, I l a w → (∀ j, (predsOf ops i).contains j = true → l.getD j false = true) → l.getD i true = false → wpOp P ops Q i (I (l.setIfInBounds i true)) a w

/-- A region that draws its order: each operation keeps what holds. -/
theorem wp_region_inv {id : Nat} {a : Act} {w : World} (I : Array Bool → Act → World → Prop) (n : Nat) (hn : ops.size = n)
    (hm : P.follows .mixedOrders = true) (hb : backward ops = true)
    (h0 : I (Array.replicate n false) a w.drew)
    (he : ∀ l a w, (∀ i, i < n → l.getD i false = true) → I l a w → Q .normal a w)
    (hs : AllFrom (OpStep P ops Q I) 0 n) : (Code.region id ops true).wp P Q a w := by
  subst hn
  refine wp_region_any hm (wpAny_inv I hb (fun i hi => AllFrom.get _ _ hs i (Nat.zero_le _) (by omega)) he _ _ _ _ (by simp) ?_ h0)
  refine Nat.le_trans List.count_le_length ?_
  simp

/-- An operation's duty, step by step. -/
theorem opStep {I : Array Bool → Act → World → Prop} {i : Nat} {o : Oper} (ho : ops[i]? = some o)
    (h : ∀ l a w, I l a w → (∀ j, (predsOf ops i).contains j = true → l.getD j false = true) → l.getD i true = false →
      ∀ K : Act → World → Prop, (∀ a w, I (l.setIfInBounds i true) a w → K a w) → if Region.wanted o (yielded ops a.tmps) = true then Oper.wp P o a w K Q else K (a.put o.dst undef) w) : OpStep P ops Q I i :=
  fun l a w hI hp hl => wpOp_step ho (h l a w hI hp hl)

/-- The temporaries of a region, by their numbers. -/
def At (a0 : Act) (ds : List Nat) (us : Nat → Value) : Act := { a0 with tmps := ds.foldl (fun t d => t.setIfInBounds d (us d)) a0.tmps }
/-- One of them turned. -/
def upd (us : Nat → Value) (d : Nat) (v : Value) : Nat → Value := fun t => if t = d then v else us t
theorem upd_same (us : Nat → Value) (d : Nat) (v : Value) : upd us d v d = v := if_pos rfl
theorem upd_ne (us : Nat → Value) {d t : Nat} (v : Value) (h : t ≠ d) : upd us d v t = us t := if_neg h
theorem at_self (a0 : Act) : ∀ ds : List Nat, At a0 ds (fun t => a0.tmps.getD t undef) = a0
  | [] => rfl
  | d :: ds => by
    have h : a0.tmps.setIfInBounds d (a0.tmps.getD d undef) = a0.tmps := by
      by_cases hd : d < a0.tmps.size
      · refine Array.ext (by simp) fun i h1 h2 => ?_
        by_cases hi : d = i
        · subst hi; simp [h2]
        · rw [Array.getElem_setIfInBounds_ne h2 hi]
      · rw [Array.setIfInBounds_eq_of_size_le (by omega)]
    have ih := at_self a0 ds
    unfold At at ih ⊢
    rw [List.foldl_cons, h]
    exact ih
/-- The same, the temporaries by their numbers. -/
theorem wp_region_at {id : Nat} {a0 : Act} {w : World} (ds : List Nat) (J : Array Bool → (Nat → Value) → World → Prop) (n : Nat) (hn : ops.size = n)
    (hm : P.follows .mixedOrders = true) (hb : backward ops = true)
    (h0 : ∀ us, J (Array.replicate n false) us w.drew)
    (he : ∀ l us w, (∀ i, i < n → l.getD i false = true) → J l us w → Q .normal (At a0 ds us) w)
    (hs : AllFrom (OpStep P ops Q (fun l a w => ∃ us, a = At a0 ds us ∧ J l us w)) 0 n) : (Code.region id ops true).wp P Q a0 w :=
  wp_region_inv (fun l a w => ∃ us, a = At a0 ds us ∧ J l us w) n hn hm hb ⟨_, (at_self a0 ds).symm, h0 _⟩ (fun l a w hl ⟨us, e, hJ⟩ => e ▸ he l us w hl hJ) hs
/-- A goal that nothing looks into. -/
structure Duty (p : Prop) : Prop where
  out : p
def nthOp : List Oper → Nat → Option Oper
  | [], _ => none
  | o :: _, 0 => some o
  | _ :: t, i + 1 => nthOp t i
theorem nthOp_eq : ∀ (l : List Oper) (i : Nat), nthOp l i = l[i]?
  | [], _ => by simp [nthOp]
  | o :: _, 0 => by simp [nthOp]
  | _ :: t, i + 1 => by simp [nthOp, nthOp_eq t i]
theorem opAt {J : Array Bool → (Nat → Value) → World → Prop} {a0 : Act} {ds : List Nat} {i : Nat} {o : Oper} (ho : nthOp ops.toList i = some o)
    (h : ∀ l us w, J l us w → (∀ j, (predsOf ops i).contains j = true → l.getD j false = true) → l.getD i true = false →
      ∀ K : Act → World → Prop, (∀ us w, J (l.setIfInBounds i true) us w → K (At a0 ds us) w) → Duty (if Region.wanted o (yielded ops (At a0 ds us).tmps) = true then Oper.wp P o (At a0 ds us) w K Q else K ((At a0 ds us).put o.dst undef) w)) :
    OpStep P ops Q (fun l a w => ∃ us, a = At a0 ds us ∧ J l us w) i :=
  opStep (by rw [← ho, nthOp_eq, Array.getElem?_toList]) fun l a w ⟨us, e, hJ⟩ hp hl K hK => by subst e; exact (h l us w hJ hp hl K fun us w hJ => hK _ _ ⟨us, rfl, hJ⟩).out
theorem upd_self {us : Nat → Value} {d : Nat} {v : Value} (h : us d = v) : upd us d v = us := by
  funext t
  by_cases e : t = d
  · subst e; rw [upd_same, h]
  · rw [upd_ne us v e]
/-- What has been listed behind one more. -/
theorem listed_or {l : Array Bool} {i j : Nat} (h : (l.setIfInBounds i true).getD j false = true) : j = i ∨ l.getD j false = true := by
  by_cases e : j = i
  · exact .inl e
  · rw [getD_set_ne false (Ne.symm e)] at h; exact .inr h
theorem none_listed {n j : Nat} (h : (Array.replicate n false).getD j false = true) : False := by
  by_cases hj : j < n
  · simp [hj] at h
  · simp [hj] at h
theorem not_listed {l : Array Bool} {j : Nat} (h : l.getD j true = false) : ¬ l.getD j false = true := by
  intro h2
  by_cases hj : j < l.size
  · simp [hj] at h h2; rw [h] at h2; cases h2
  · simp [hj] at h
end
end Go.Proofs.YtekbfommnmikbaaGreatDoor
/- A region that draws its order, whose operations have values that are known ahead, and leave what was there. -/
namespace Go.Proofs.YtekbfommnmikbaaGreatDoor
set_option linter.unusedVariables false
set_option linter.unusedSimpArgs false
open Go.RowKit

/-- What holds while such a region runs. -/
structure Jv (W : World) (ds : List Nat) (vs : List Value) (l : Array Bool) (us : Nat → Value) (w : World) : Prop where
  below : Below W.heap.size W w
  val : ∀ i, i < ds.length → l.getD i false = true → us (ds.getD i 0) = vs.getD i undef
theorem Jv.start {W : World} {ds : List Nat} {vs : List Value} {n : Nat} (us : Nat → Value) : Jv W ds vs (Array.replicate n false) us W.drew :=
  ⟨(Below.refl _ _).drew, fun i _ h => (none_listed h).elim⟩
theorem Jv.step {W w w' : World} {ds : List Nat} {vs : List Value} {l : Array Bool} {us : Nat → Value} (h : Jv W ds vs l us w) (hb : Below w.heap.size w w') (i d : Nat) (v : Value) (hi : ds.getD i 0 = d) (hv : vs.getD i undef = v) (hn : ∀ j, j < ds.length → ds.getD j 0 = d → j = i) :
    Jv W ds vs (l.setIfInBounds i true) (upd us d v) w' := by
  refine ⟨h.below.trans (hb.mono h.below.size), fun j hj hl => ?_⟩
  by_cases e : j = i
  · subst e; rw [hi, upd_same, hv]
  · rw [upd_ne us v (fun e2 => e (hn j hj e2))]
    rcases listed_or hl with h1 | h1
    · exact absurd h1 e
    · exact h.val j hj h1
/-- Slots that are all different. -/
def distinct (ds : List Nat) : Bool := (List.range ds.length).all fun i => (List.range ds.length).all fun j => decide (ds.getD j 0 = ds.getD i 0 → j = i)
theorem distinct_at {ds : List Nat} (h : distinct ds = true) {i : Nat} (hi : i < ds.length) : ∀ j, j < ds.length → ds.getD j 0 = ds.getD i 0 → j = i := fun j hj e => by
  have h1 := List.all_eq_true.1 h i (List.mem_range.2 hi)
  have h2 := List.all_eq_true.1 h1 j (List.mem_range.2 hj)
  exact of_decide_eq_true h2 e
theorem Jv.go {W w w' : World} {ds : List Nat} {vs : List Value} {l : Array Bool} {us : Nat → Value} (h : Jv W ds vs l us w) (hd : distinct ds = true) (hb : Below w.heap.size w w') (i : Nat) (hi : i < ds.length) :
    Jv W ds vs (l.setIfInBounds i true) (upd us (ds.getD i 0) (vs.getD i undef)) w' := h.step hb i _ _ rfl rfl (distinct_at hd hi)
end Go.Proofs.YtekbfommnmikbaaGreatDoor
/- A region that draws its order, whose operations have values of which something is known, and leave what was there; at its end there may be a store. -/
namespace Go.Proofs.YtekbfommnmikbaaGreatDoor
set_option linter.unusedVariables false
set_option linter.unusedSimpArgs false
open Go.RowKit

/-- What waits for what. -/
def covers (ops : Array Oper) : Nat → List Nat → List Nat
  | 0, s => s
  | k + 1, s => covers ops k ((s ++ s.flatMap (predsOf ops)).eraseDups)
theorem covers_listed {ops : Array Oper} {l : Array Bool} (hcl : ∀ i j, l.getD i false = true → (predsOf ops i).contains j = true → l.getD j false = true) : ∀ (k : Nat) (s : List Nat), (∀ i, i ∈ s → l.getD i false = true) → ∀ i, i ∈ covers ops k s → l.getD i false = true
  | 0, s, h, i, hi => h i hi
  | k + 1, s, h, i, hi => by
    refine covers_listed hcl k _ (fun j hj => ?_) i hi
    rw [List.mem_eraseDups] at hj
    rcases List.mem_append.1 hj with h1 | h1
    · exact h j h1
    · obtain ⟨q, hq1, hq2⟩ := List.mem_flatMap.1 h1
      exact hcl q j (h q hq1) (by simpa using hq2)
/-- All operations but the last one are waited for by it. -/
def lastly (ops : Array Oper) (f : Nat) : Bool := (List.range ops.size).all fun j => (covers ops ops.size (predsOf ops f)).contains j || decide (j = f)

/-- Known things stay. -/
def StableL : List (World → Value → Prop) → Prop
  | [] => True
  | p :: t => (∀ (w w' : World) (v : Value), Below w.heap.size w w' → p w v → p w' v) ∧ StableL t
theorem StableL.get : ∀ {Ps : List (World → Value → Prop)}, StableL Ps → ∀ (i : Nat) {w w' : World} {v : Value}, Below w.heap.size w w' → (Ps.getD i (fun _ _ => True)) w v → (Ps.getD i (fun _ _ => True)) w' v
  | [], _, _, _, _, _, _, _ => by simp
  | p :: t, h, 0, w, w', v, hb, hp => h.1 w w' v hb hp
  | p :: t, h, i + 1, w, w', v, hb, hp => StableL.get h.2 i hb hp

/-- What holds while such a region runs. f: the store at the end (or the number of operations, if there is none). -/
structure Jp (ops : Array Oper) (W : World) (sl : List Nat) (Ps : List (World → Value → Prop)) (f : Nat) (Fin : (Nat → Value) → World → Prop) (l : Array Bool) (us : Nat → Value) (w : World) : Prop where
  size : l.size = ops.size
  cl : ∀ i j, l.getD i false = true → (predsOf ops i).contains j = true → l.getD j false = true
  below : l.getD f false = false → Below W.heap.size W w
  val : l.getD f false = false → ∀ i, i < sl.length → l.getD i false = true → (Ps.getD i (fun _ _ => True)) w (us (sl.getD i 0))
  fin : l.getD f false = true → (∀ j, j < ops.size → l.getD j false = true) ∧ Fin us w
theorem Jp.start {ops : Array Oper} {W : World} {sl : List Nat} {Ps : List (World → Value → Prop)} {f : Nat} {Fin : (Nat → Value) → World → Prop} (us : Nat → Value) : Jp ops W sl Ps f Fin (Array.replicate ops.size false) us W.drew :=
  ⟨by simp, fun i j h => (none_listed h).elim, fun _ => (Below.refl _ _).drew, fun _ i _ h => (none_listed h).elim, fun h => (none_listed h).elim⟩
theorem Jp.live {ops : Array Oper} {W w : World} {sl : List Nat} {Ps : List (World → Value → Prop)} {f i : Nat} {Fin : (Nat → Value) → World → Prop} {l : Array Bool} {us : Nat → Value} (h : Jp ops W sl Ps f Fin l us w) (hl : l.getD i true = false) (hi : i < ops.size) : l.getD f false = false := by
  cases hf : l.getD f false with
  | false => rfl
  | true => exact absurd ((h.fin hf).1 i hi) (not_listed hl)
theorem listed_set {l : Array Bool} {i j : Nat} (h : l.getD j false = true) : (l.setIfInBounds i true).getD j false = true := by
  by_cases e : i = j
  · subst e
    by_cases hi : i < l.size
    · simp [hi]
    · simp [hi] at h
  · rw [getD_set_ne false e]; exact h
theorem listed_now {l : Array Bool} {i : Nat} (h : l.getD i true = false) : (l.setIfInBounds i true).getD i false = true := by
  by_cases hi : i < l.size
  · simp [hi]
  · simp [hi] at h
theorem Jp.cl_set {ops : Array Oper} {l : Array Bool} {i : Nat} (hcl : ∀ i j, l.getD i false = true → (predsOf ops i).contains j = true → l.getD j false = true) (hp : ∀ j, (predsOf ops i).contains j = true → l.getD j false = true) :
    ∀ a j, (l.setIfInBounds i true).getD a false = true → (predsOf ops a).contains j = true → (l.setIfInBounds i true).getD j false = true := by
  intro a j ha hj
  rcases listed_or ha with rfl | h1
  · exact listed_set (hp j hj)
  · exact listed_set (hcl a j h1 hj)
theorem Jp.go {ops : Array Oper} {W w w' : World} {sl : List Nat} {Ps : List (World → Value → Prop)} {f : Nat} {Fin : (Nat → Value) → World → Prop} {l : Array Bool} {us : Nat → Value} (h : Jp ops W sl Ps f Fin l us w) (hst : StableL Ps) (hd : distinct sl = true) (i : Nat) (hf : l.getD f false = false) (hif : i ≠ f) (hi : i < sl.length) (hp : ∀ j, (predsOf ops i).contains j = true → l.getD j false = true) (hb : Below w.heap.size w w') (v : Value) (hv : (Ps.getD i (fun _ _ => True)) w' v) :
    Jp ops W sl Ps f Fin (l.setIfInBounds i true) (upd us (sl.getD i 0) v) w' := by
  have hf2 : (l.setIfInBounds i true).getD f false = false := by rw [getD_set_ne false hif]; exact hf
  refine ⟨by rw [Array.size_setIfInBounds]; exact h.size, Jp.cl_set h.cl hp, fun _ => (h.below hf).trans (hb.mono (h.below hf).size), fun _ j hj hl => ?_, fun e => by rw [hf2] at e; cases e⟩
  by_cases e : j = i
  · subst e; rw [upd_same]; exact hv
  · rw [upd_ne us v (fun e2 => e (distinct_at hd hi j hj e2))]
    rcases listed_or hl with h1 | h1
    · exact absurd h1 e
    · exact hst.get j hb (h.val hf j hj h1)
/-- The store at the end. -/
theorem Jp.store {ops : Array Oper} {W w w' : World} {sl : List Nat} {Ps : List (World → Value → Prop)} {f : Nat} {Fin : (Nat → Value) → World → Prop} {l : Array Bool} {us : Nat → Value} (h : Jp ops W sl Ps f Fin l us w) (hc : lastly ops f = true) (hl : l.getD f true = false) (hp : ∀ j, (predsOf ops f).contains j = true → l.getD j false = true) (hF : Fin us w') :
    Jp ops W sl Ps f Fin (l.setIfInBounds f true) us w' := by
  have hn := listed_now hl
  have hall : ∀ j, j < ops.size → (l.setIfInBounds f true).getD j false = true := by
    intro j hj
    have h1 := List.all_eq_true.1 hc j (List.mem_range.2 hj)
    rw [Bool.or_eq_true, decide_eq_true_iff] at h1
    rcases h1 with h1 | h1
    · refine listed_set (covers_listed h.cl _ _ (fun i hi => hp i (by simpa using hi)) j (by simpa using h1))
    · rw [h1]; exact hn
  exact ⟨by rw [Array.size_setIfInBounds]; exact h.size, Jp.cl_set h.cl hp, fun e => (by rw [hn] at e; cases e), fun e => (by rw [hn] at e; cases e), fun _ => ⟨hall, hF⟩⟩
/-- No store at the end. -/
theorem Jp.nofin {ops : Array Oper} {W w : World} {sl : List Nat} {Ps : List (World → Value → Prop)} {f : Nat} {Fin : (Nat → Value) → World → Prop} {l : Array Bool} {us : Nat → Value} (h : Jp ops W sl Ps f Fin l us w) (hf : ops.size = f) : l.getD f false = false := by
  have : ¬ f < l.size := by rw [h.size]; omega
  simp [this]
/-- At the end. -/
theorem Jp.ended {ops : Array Oper} {W w : World} {sl : List Nat} {Ps : List (World → Value → Prop)} {f n : Nat} {Fin : (Nat → Value) → World → Prop} {l : Array Bool} {us : Nat → Value} (h : Jp ops W sl Ps f Fin l us w) (hl : ∀ i, i < n → l.getD i false = true) (hf : f < n) : Fin us w := (h.fin (hl f hf)).2
/-- The region's law. -/
theorem wp_region_p {P : Program} {ops : Array Oper} {Q : Exit → Act → World → Prop} {id : Nat} {a0 : Act} {w : World} (ds sl : List Nat) (Ps : List (World → Value → Prop)) (f : Nat) (Fin : (Nat → Value) → World → Prop) (n : Nat) (hn : ops.size = n)
    (hm : P.follows .mixedOrders = true) (hb : backward ops = true)
    (he : ∀ l us w', (∀ i, i < n → l.getD i false = true) → Jp ops w sl Ps f Fin l us w' → Q .normal (At a0 ds us) w')
    (hs : AllFrom (OpStep P ops Q (fun l a w' => ∃ us, a = At a0 ds us ∧ Jp ops w sl Ps f Fin l us w')) 0 n) : (Code.region id ops true).wp P Q a0 w :=
  wp_region_at ds (Jp ops w sl Ps f Fin) n hn hm hb (fun us => by subst hn; exact Jp.start us) he hs
end Go.Proofs.YtekbfommnmikbaaGreatDoor
/- The reference of layer 2: numbers; Of, zeros, at, Order. -/
namespace Go.Proofs.YtekbfommnmikbaaGreatDoor
set_option linter.unusedVariables false
set_option linter.unusedSimpArgs false
open Go.RowKit Go.Shelf Go.Proofs
attribute [local go_sem ↓] Go.wp_at_zero Go.wp_at_succ

/-- v is the number z times 10 to the power of e. -/
def Dc (w : World) (v : Value) (z e : Int) : Prop := ∃ A n c b, v = .agg #[.slice A n c, .bool b, .int .i64 e] ∧ Ri w (.agg #[.slice A n c, .bool b]) z
theorem Dc.below {w w' : World} {v : Value} {z e : Int} (h : Dc w v z e) (hb : Below w.heap.size w w') : Dc w' v z e := by
  obtain ⟨A, n, c, b, h1, h2⟩ := h
  exact ⟨A, n, c, b, h1, h2.below hb⟩
/-- Digits lie in no box whose whole numbers are all 0. -/
theorem dg_off {w F : World} {v : Value} {n g : Nat} {cs : Array Value} {t : TypeId} {fz : Nat × Nat} (h : Dg 10 w v n) (hbox : w.heap[g]? = some (.cells cs t fz)) (hcs : ∀ (i : Nat) z, cs[i]? = some (.int .i64 z) → z = 0) (hF : ∀ k, k ≠ g → F.heap[k]? = w.heap[k]?) : Dg 10 F v n := by
  obtain ⟨A, c, rfl, h1, h2, hr⟩ := h
  by_cases h0 : dg 10 n = []
  · refine ⟨A, c, rfl, h1, h2, ?_⟩
    rw [h0]; exact Row.nil
  · refine Dg.same ⟨A, c, rfl, h1, h2, hr⟩ fun k hk => hF k fun e => ?_
    subst e
    have hl : 0 < (dg 10 n).length := List.length_pos_iff.2 h0
    obtain ⟨a, rfl, hc⟩ := hr ((dg 10 n).length - 1) (by omega)
    have hb : a.block = k := by simpa [Value.ownBlock] using hk
    unfold World.cell? at hc
    rw [show (a.add ((dg 10 n).length - 1)).block = k from (show (a.add ((dg 10 n).length - 1)).block = a.block by first | rfl | (cases a; rfl) | (cases a; simp only [Addr.add]; split <;> rfl)).trans hb, hbox] at hc
    simp only [] at hc
    split at hc
    · cases hc
    · have h3 := hcs _ _ hc
      have h4 := last_of_noTop (dg_noTop (b := 10) (by decide) n) ((dg 10 n).length - 1) (by omega)
      rw [List.getD_eq_getElem?_getD] at h4
      exact h4 h3
theorem zero_box3 : ∀ (i : Nat) z, (#[.slice none 0 0, .bool false, .int .i64 0] : Array Value)[i]? = some (.int .i64 z) → z = 0 := by
  intro i z hi
  match i with
  | 0 => simp at hi
  | 1 => simp at hi
  | 2 => simp at hi; exact hi.symm
  | i + 3 => simp at hi
/-- A number stored into a fresh box. -/
theorem dc_put {w : World} {g : Nat} {t : TypeId} {A : Option Addr} {n c : Nat} {b : Bool} {z e : Int} (h : Ri w (.agg #[.slice A n c, .bool b]) z) (hb : w.heap[g]? = some (.cells #[.slice none 0 0, .bool false, .int .i64 0] t (0, 0))) :
    ∃ F, ((w.setCell ⟨g, 0, none⟩ (.slice A n c)).setCell ⟨g, 1, none⟩ (.bool b)).setCell ⟨g, 2, none⟩ (.int .i64 e) = F ∧ F.cell? ⟨g, 0, none⟩ = some (.slice A n c) ∧ F.cell? ⟨g, 1, none⟩ = some (.bool b) ∧ F.cell? ⟨g, 2, none⟩ = some (.int .i64 e) ∧ Ri F (.agg #[.slice A n c, .bool b]) z ∧ (∀ k w0, k ≤ g → Below k w0 w → Below k w0 F) := by
  have h9 := putB (putB (putB hb 0 (.slice A n c)) 1 (.bool b)) 2 (.int .i64 e)
  have r0 := cell_of_heap h9 0; have r1 := cell_of_heap h9 1; have r2 := cell_of_heap h9 2
  simp at r0 r1 r2
  refine ⟨_, rfl, r0, r1, r2, ?_, fun k w0 hk hb => ((hb.setCell hk _).setCell hk _).setCell hk _⟩
  obtain ⟨p, e, hd⟩ := h
  exact ⟨p, e, dg_off hd hb zero_box3 fun k hk => by rw [Below.heap_setCell _ _ _ _ hk, Below.heap_setCell _ _ _ _ hk, Below.heap_setCell _ _ _ _ hk]⟩
theorem three_cells {w : World} {B : Nat} {x y z : Value} {t : TypeId} {fz : Nat × Nat} (h : w.heap[B]? = some (.cells #[x, y, z] t fz)) : w.cell? ⟨B, 0, none⟩ = some x ∧ w.cell? ⟨B, 1, none⟩ = some y ∧ w.cell? ⟨B, 2, none⟩ = some z := ⟨cell_of_heap h 0, cell_of_heap h 1, cell_of_heap h 2⟩

set_option maxRecDepth 100000 in
set_option maxHeartbeats 8000000 in
theorem sof_c (m e : Int) (w : World) (h0 : -9223372036854775808 ≤ m) (h1 : m ≤ 9223372036854775807) :
    Calls Tryz.prog 45 #[.agg #[.int .i64 m, .int .i64 e]] w fun en w' => ∃ v, en = .returned v ∧ Dc w' v m e ∧ Below w.heap.size w w' := by
  obtain ⟨W, hW, k0, k1, hbel, hsz⟩ := bx2h w #[.int .i64 m, .int .i64 e] #[.slice none 0 0, .bool false, .int .i64 0] 23 60
  obtain ⟨c0, c1⟩ := two_cells k0
  have HK1 := Lib.hid k1
  have HBEL := Lib.hid hbel
  have HOF := Lib.hid (fun w' => rof_c _ m w' (numL_int h0 h1))
  have HFI := Lib.hid (fun w' => rfromint_c m w' h0 h1)
  clear k0 k1 hbel
  go_enter Tryz.func45, Tryz.ntmps45
  go_upto_region 1 with fail
  go_cut [9] from 3 to 9 (fun v wx => ∃ A n c b, wx.cell? ⟨w.heap.size + 1, 0, none⟩ = some (.slice A n c) ∧ wx.cell? ⟨w.heap.size + 1, 1, none⟩ = some (.bool b) ∧ wx.cell? ⟨w.heap.size + 1, 2, none⟩ = some (.int .i64 e) ∧ Hid (Ri wx (.agg #[.slice A n c, .bool b]) m) ∧ Hid (Below w.heap.size w wx))
  case first =>
    have HSTL : StableL [(fun _ v => v = .pointer (some ⟨w.heap.size, 0, none⟩)), (fun _ v => v = .int .i64 m), (fun _ v => v = .string ⟨(Lib.itoa m).toArray⟩), (fun w v => Ri w v m), (fun _ v => v = .pointer (some ⟨w.heap.size, 1, none⟩)), (fun _ v => v = .int .i64 e), (fun w v => Dc w v m e), (fun _ _ => True)] := ⟨(fun _ _ _ _ h => h), (fun _ _ _ _ h => h), (fun _ _ _ _ h => h), (fun _ _ _ hb h => Ri.below h hb), (fun _ _ _ _ h => h), (fun _ _ _ _ h => h), (fun _ _ _ hb h => Dc.below h hb), (fun _ _ _ _ h => h), trivial⟩
    refine wp_region_p [3, 4, 5, 6, 7, 8, 9] [3, 4, 5, 6, 7, 8, 9, 1000] [(fun _ v => v = .pointer (some ⟨w.heap.size, 0, none⟩)), (fun _ v => v = .int .i64 m), (fun _ v => v = .string ⟨(Lib.itoa m).toArray⟩), (fun w v => Ri w v m), (fun _ v => v = .pointer (some ⟨w.heap.size, 1, none⟩)), (fun _ v => v = .int .i64 e), (fun w v => Dc w v m e), (fun _ _ => True)] 7 (fun _ wx => ∃ A n c b, wx.cell? ⟨w.heap.size + 1, 0, none⟩ = some (.slice A n c) ∧ wx.cell? ⟨w.heap.size + 1, 1, none⟩ = some (.bool b) ∧ wx.cell? ⟨w.heap.size + 1, 2, none⟩ = some (.int .i64 e) ∧ Hid (Ri wx (.agg #[.slice A n c, .bool b]) m) ∧ Hid (Below w.heap.size w wx)) 8 rfl (by kernel_rfl) (by kernel_rfl) ?_ ⟨?_, ?_, ?_, ?_, ?_, ?_, ?_, ?_, trivial⟩
    · intro l us wx hl hJ
      have HF := Lib.hid (hJ.ended hl (by decide))
      clear hl hJ
      simp only [At, List.foldl_cons, List.foldl_nil, List.setIfInBounds_toArray, List.set_cons_zero, List.set_cons_succ]
      go_wp2_with fail
      go_meet
      exact HF.out
    · refine opAt rfl ?_
      intro l us wx hJ hp hl K hK
      have HJ := Lib.hid hJ; have HP := Lib.hid hp; have HLI := Lib.hid hl; have HF := Lib.hid (hJ.live hl (by decide)); have HBX := Lib.hid (hJ.below HF.out); have HK := hK
      clear hJ hp hl hK
      simp only [At, List.foldl_cons, List.foldl_nil, List.setIfInBounds_toArray, List.set_cons_zero, List.set_cons_succ] at HK
      have HK := Lib.hid HK
      simp only [At, List.foldl_cons, List.foldl_nil, List.setIfInBounds_toArray, List.set_cons_zero, List.set_cons_succ]
      refine ⟨?_⟩
      go_simp
      exact HK.out (upd us 3 (.pointer (some ⟨w.heap.size, 0, none⟩))) wx (by exact HJ.out.go HSTL (by kernel_rfl) 0 HF.out (by decide) (by decide) HP.out (Below.refl _ _) (.pointer (some ⟨w.heap.size, 0, none⟩)) (rfl))
    · refine opAt rfl ?_
      intro l us wx hJ hp hl K hK
      have HJ := Lib.hid hJ; have HP := Lib.hid hp; have HLI := Lib.hid hl; have HF := Lib.hid (hJ.live hl (by decide)); have HBX := Lib.hid (hJ.below HF.out); have HK := hK
      clear hJ hp hl hK
      simp only [At, List.foldl_cons, List.foldl_nil, List.setIfInBounds_toArray, List.set_cons_zero, List.set_cons_succ] at HK
      have HK := Lib.hid HK
      have h3 : us 3 = .pointer (some ⟨w.heap.size, 0, none⟩) := HJ.out.val HF.out 0 (by decide) (HP.out 0 (by kernel_rfl))
      have c0 := keep_cell HBX.out c0
      simp only [At, List.foldl_cons, List.foldl_nil, List.setIfInBounds_toArray, List.set_cons_zero, List.set_cons_succ]
      refine ⟨?_⟩
      go_simp
      exact HK.out (upd (upd us 3 (.pointer (some ⟨w.heap.size, 0, none⟩))) 4 (.int .i64 m)) wx (by rw [upd_self h3]; exact HJ.out.go HSTL (by kernel_rfl) 1 HF.out (by decide) (by decide) HP.out (Below.refl _ _) (.int .i64 m) (rfl))
    · refine opAt rfl ?_
      intro l us wx hJ hp hl K hK
      have HJ := Lib.hid hJ; have HP := Lib.hid hp; have HLI := Lib.hid hl; have HF := Lib.hid (hJ.live hl (by decide)); have HBX := Lib.hid (hJ.below HF.out); have HK := hK
      clear hJ hp hl hK
      simp only [At, List.foldl_cons, List.foldl_nil, List.setIfInBounds_toArray, List.set_cons_zero, List.set_cons_succ] at HK
      have HK := Lib.hid HK
      have h4 : us 4 = .int .i64 m := HJ.out.val HF.out 1 (by decide) (HP.out 1 (by kernel_rfl))
      simp only [At, List.foldl_cons, List.foldl_nil, List.setIfInBounds_toArray, List.set_cons_zero, List.set_cons_succ]
      refine ⟨?_⟩
      go_simp
      go_wp2_with ((go_at_call 94; (with_reducible refine (HFI.out _).mono ?_); rintro en w9 ⟨rfl, hbz⟩; have HC := Lib.hid hbz; clear hbz))
      exact HK.out (upd (upd us 4 (.int .i64 m)) 5 (.string ⟨(Lib.itoa m).toArray⟩)) w9 (by rw [upd_self h4]; exact HJ.out.go HSTL (by kernel_rfl) 2 HF.out (by decide) (by decide) HP.out HC.out (.string ⟨(Lib.itoa m).toArray⟩) (rfl))
    · refine opAt rfl ?_
      intro l us wx hJ hp hl K hK
      have HJ := Lib.hid hJ; have HP := Lib.hid hp; have HLI := Lib.hid hl; have HF := Lib.hid (hJ.live hl (by decide)); have HBX := Lib.hid (hJ.below HF.out); have HK := hK
      clear hJ hp hl hK
      simp only [At, List.foldl_cons, List.foldl_nil, List.setIfInBounds_toArray, List.set_cons_zero, List.set_cons_succ] at HK
      have HK := Lib.hid HK
      have h5 : us 5 = .string ⟨(Lib.itoa m).toArray⟩ := HJ.out.val HF.out 2 (by decide) (HP.out 2 (by kernel_rfl))
      simp only [At, List.foldl_cons, List.foldl_nil, List.setIfInBounds_toArray, List.set_cons_zero, List.set_cons_succ]
      refine ⟨?_⟩
      go_simp
      go_wp2_with ((go_at_call 93; (with_reducible refine (HOF.out _).mono ?_); rintro en w9 ⟨v9, rfl, hv9, hbz⟩; have HV := Lib.hid hv9; clear hv9; have HC := Lib.hid hbz; clear hbz))
      exact HK.out (upd (upd us 5 (.string ⟨(Lib.itoa m).toArray⟩)) 6 (v9)) w9 (by rw [upd_self h5]; exact HJ.out.go HSTL (by kernel_rfl) 3 HF.out (by decide) (by decide) HP.out HC.out (v9) (HV.out))
    · refine opAt rfl ?_
      intro l us wx hJ hp hl K hK
      have HJ := Lib.hid hJ; have HP := Lib.hid hp; have HLI := Lib.hid hl; have HF := Lib.hid (hJ.live hl (by decide)); have HBX := Lib.hid (hJ.below HF.out); have HK := hK
      clear hJ hp hl hK
      simp only [At, List.foldl_cons, List.foldl_nil, List.setIfInBounds_toArray, List.set_cons_zero, List.set_cons_succ] at HK
      have HK := Lib.hid HK
      simp only [At, List.foldl_cons, List.foldl_nil, List.setIfInBounds_toArray, List.set_cons_zero, List.set_cons_succ]
      refine ⟨?_⟩
      go_simp
      exact HK.out (upd us 7 (.pointer (some ⟨w.heap.size, 1, none⟩))) wx (by exact HJ.out.go HSTL (by kernel_rfl) 4 HF.out (by decide) (by decide) HP.out (Below.refl _ _) (.pointer (some ⟨w.heap.size, 1, none⟩)) (rfl))
    · refine opAt rfl ?_
      intro l us wx hJ hp hl K hK
      have HJ := Lib.hid hJ; have HP := Lib.hid hp; have HLI := Lib.hid hl; have HF := Lib.hid (hJ.live hl (by decide)); have HBX := Lib.hid (hJ.below HF.out); have HK := hK
      clear hJ hp hl hK
      simp only [At, List.foldl_cons, List.foldl_nil, List.setIfInBounds_toArray, List.set_cons_zero, List.set_cons_succ] at HK
      have HK := Lib.hid HK
      have h7 : us 7 = .pointer (some ⟨w.heap.size, 1, none⟩) := HJ.out.val HF.out 4 (by decide) (HP.out 4 (by kernel_rfl))
      have c1 := keep_cell HBX.out c1
      simp only [At, List.foldl_cons, List.foldl_nil, List.setIfInBounds_toArray, List.set_cons_zero, List.set_cons_succ]
      refine ⟨?_⟩
      go_simp
      exact HK.out (upd (upd us 7 (.pointer (some ⟨w.heap.size, 1, none⟩))) 8 (.int .i64 e)) wx (by rw [upd_self h7]; exact HJ.out.go HSTL (by kernel_rfl) 5 HF.out (by decide) (by decide) HP.out (Below.refl _ _) (.int .i64 e) (rfl))
    · refine opAt rfl ?_
      intro l us wx hJ hp hl K hK
      have HJ := Lib.hid hJ; have HP := Lib.hid hp; have HLI := Lib.hid hl; have HF := Lib.hid (hJ.live hl (by decide)); have HBX := Lib.hid (hJ.below HF.out); have HK := hK
      clear hJ hp hl hK
      simp only [At, List.foldl_cons, List.foldl_nil, List.setIfInBounds_toArray, List.set_cons_zero, List.set_cons_succ] at HK
      have HK := Lib.hid HK
      have h6 : Ri wx (us 6) m := HJ.out.val HF.out 3 (by decide) (HP.out 3 (by kernel_rfl))
      obtain ⟨A6, n6, q6, b6, e6⟩ := h6.form
      have h8 : us 8 = .int .i64 e := HJ.out.val HF.out 5 (by decide) (HP.out 5 (by kernel_rfl))
      simp only [At, List.foldl_cons, List.foldl_nil, List.setIfInBounds_toArray, List.set_cons_zero, List.set_cons_succ]
      refine ⟨?_⟩
      go_simp
      exact HK.out (upd (upd (upd us 6 (.agg #[.slice A6 n6 q6, .bool b6])) 8 (.int .i64 e)) 9 (.agg #[.slice A6 n6 q6, .bool b6, .int .i64 e])) wx (by rw [upd_self e6, upd_self h8]; exact HJ.out.go HSTL (by kernel_rfl) 6 HF.out (by decide) (by decide) HP.out (Below.refl _ _) (.agg #[.slice A6 n6 q6, .bool b6, .int .i64 e]) (⟨A6, n6, q6, b6, rfl, by rw [← e6]; exact h6⟩))
    · refine opAt rfl ?_
      intro l us wx hJ hp hl K hK
      have HJ := Lib.hid hJ; have HP := Lib.hid hp; have HLI := Lib.hid hl; have HF := Lib.hid (hJ.live hl (by decide)); have HBX := Lib.hid (hJ.below HF.out); have HK := hK
      clear hJ hp hl hK
      simp only [At, List.foldl_cons, List.foldl_nil, List.setIfInBounds_toArray, List.set_cons_zero, List.set_cons_succ] at HK
      have HK := Lib.hid HK
      have h9 : Dc wx (us 9) m e := HJ.out.val HF.out 6 (by decide) (HP.out 6 (by kernel_rfl))
      obtain ⟨A9, n9, q9, b9, e9, hr9⟩ := h9
      have hb9 := heapB HBX.out HK1.out
      obtain ⟨d0, d1, d2⟩ := three_cells hb9
      have f0 := free_of_heap hb9 0; have f1 := free_of_heap hb9 1; have f2 := free_of_heap hb9 2
      obtain ⟨F, hF, r0, r1, r2, hri, hfb⟩ := dc_put (e := e) hr9 hb9
      have HR9 := Lib.hid hri; have HFB := Lib.hid (hfb w.heap.size w (by omega) (belowT HBEL.out HBX.out))
      clear hri hfb hr9
      simp only [At, List.foldl_cons, List.foldl_nil, List.setIfInBounds_toArray, List.set_cons_zero, List.set_cons_succ]
      refine ⟨?_⟩
      go_simp
      (try rw [hF])
      exact HK.out (upd us 9 (.agg #[.slice A9 n9 q9, .bool b9, .int .i64 e])) _ (by rw [upd_self e9]; exact HJ.out.store (by kernel_rfl) HLI.out HP.out (⟨A9, n9, q9, b9, r0, r1, r2, HR9.out, HFB.out⟩))
  case rest =>
    obtain ⟨A, n, c, b, r0, r1, r2, HR, HB⟩ := hcut
    go_wp2_with fail
    refine bodyPost_ret (v := .agg #[.slice A n c, .bool b, .int .i64 e]) (by simp [results, Tryz.results45, go_sem, r0, r1, r2]) rfl ?_
    exact ⟨_, rfl, ⟨A, n, c, b, rfl, HR.out⟩, HB.out⟩

theorem dg_shift {N : Nat} (hN : 0 < N) : ∀ n, dg 10 (N * 10 ^ n) = List.replicate n 0 ++ dg 10 N
  | 0 => by simp
  | n + 1 => by
    have hp : 0 < N * 10 ^ (n + 1) := Nat.mul_pos hN (Nat.pow_pos (by decide))
    rw [dg_pos (by decide) hp, Nat.pow_succ, ← Nat.mul_assoc, Nat.mul_mod_left, Nat.mul_div_cancel _ (by decide), dg_shift hN n]
    rfl
theorem own_mono {w : World} {base b2 n : Nat} {e : TypeId} {size : Nat} {v : Value} {xs : List Value} (h : w.ownsRow base e size v n xs) (hb : b2 ≤ base) : w.ownsRow b2 e size v n xs := by
  refine ⟨h.1, h.2.imp id ?_⟩
  rintro ⟨g, cap, cur, rfl, hg, hh, hr⟩
  exact ⟨g, cap, cur, rfl, Nat.le_trans hb hg, hh, hr⟩
/-- append of digits to zeros that fill their row. -/
theorem step_app {ops : Array Oper} {o : Oper} {a : Act} {w : World} {K : Act → World → Prop} {Q : Exit → Act → World → Prop} {E : Prop}
    (hg : o.guard = none) (s x : Operand) (hop : o.op = Op.call { callee := Callee.builtin Builtin.append, args := #[s, x], argTypes := #[56, 56] })
    (base g n N : Nat) (hs : a.eval s = .slice (some ⟨g, 0, none⟩) n n) (hown : w.ownsRow base 3 1 (.slice (some ⟨g, 0, none⟩) n n) n ((List.replicate n (0 : Int)).map (Value.int .i64)))
    (A : Option Addr) (c : Nat) (hx : a.eval x = .slice A (dg 10 N).length c) (hr : Row .i64 w A (dg 10 N)) (hN : 0 < N) (hb : n + (dg 10 N).length ≤ 10000000)
    (hK : ∀ v' w', Dg 10 w' v' (N * 10 ^ n) → Below w.heap.size w w' → K (a.put o.dst v') w') :
    if Region.wanted o (yielded ops a.tmps) = true then Oper.wp Tryz.prog o a w K Q else E := by
  obtain ⟨i0, hi, hz0, hz1, hz2⟩ := info_parts info_int
  have hl : 0 < (dg 10 N).length := List.length_pos_iff.2 fun e => by have := (dg_eq_nil (by decide)).1 e; omega
  obtain ⟨ad, rfl, -⟩ := hr 0 hl
  refine step_append_grows hg s x 56 hop 3 i0 (.int .i64 0) 1 8 Tryz.underlying56 hi hz0 hz1 hz2 rfl (by decide) (some ⟨g, 0, none⟩) n n ((List.replicate n (0 : Int)).map (Value.int .i64)) hs (fun h => by cases h) (by simp) ?_ ad (dg 10 N).length c ((dg 10 N).map (Value.int .i64)) hx (by simp) ?_ ?_ (by omega) (by unfold maxLen; omega) (by omega) ?_
  · intro b hb2 j u hj
    cases hb2
    exact hown.cells (g := g) rfl j _ hj
  · intro j u hj
    have hjn : j < (dg 10 N).length := by
      have := (List.getElem?_eq_some_iff.1 hj).1
      simpa using this
    obtain ⟨a', e, hc⟩ := hr j hjn
    cases e
    rw [hc]
    rw [List.getElem?_map, List.getElem?_eq_getElem hjn] at hj
    rw [List.getElem?_eq_getElem hjn]
    exact hj
  · intro u hu; obtain ⟨x, _, rfl⟩ := List.mem_map.1 hu; rfl
  · intro v' w' h1 h2
    rw [← List.map_append, ← dg_shift hN] at h1
    exact hK v' w' (own_sl h1) ((Below.refl _ _).grown h2 (Nat.le_refl _) (fun k hk => by cases hk))

set_option maxRecDepth 100000 in
set_option maxHeartbeats 8000000 in
theorem zeros_c (v : Value) (z k : Int) (n : Nat) (w : World) (h : Ri w v z) (hm : (dg 10 z.natAbs).length ≤ 1000000) (hk : k = (n : Int)) (hn : n ≤ 1000000) :
    Calls Tryz.prog 126 #[v, .int .i64 k] w (RiP (z * 10 ^ n) w) := by
  subst hk
  obtain ⟨A, L, c, b, rfl⟩ := h.form
  obtain ⟨hL, hbz⟩ := ri_parts h
  obtain ⟨W, hW, k0, k1, hbel, hsz⟩ := bx2h w #[.slice A L c, .bool b] #[.slice none 0 0, .bool false] 58 58
  obtain ⟨c0, c1⟩ := two_cells k0
  have HK1 := Lib.hid k1
  have HBEL := Lib.hid hbel
  have HR := Lib.hid (h.below hbel)
  clear k0 k1 hbel
  by_cases hz : z = 0
  · subst hz
    obtain rfl : L = 0 := by rw [hL, Int.natAbs_zero, dg_zero]; rfl
    obtain ⟨d0, d1⟩ := two_cells HK1.out
    have f0 := free_of_heap HK1.out 0; have f1 := free_of_heap HK1.out 1
    obtain ⟨F, hF, r0, r1, hri, hfb⟩ := ri_put HR.out HK1.out
    have HRI := Lib.hid hri; have HFB := Lib.hid (hfb w.heap.size w (by omega) HBEL.out)
    clear hri hfb hbz hL hm h
    go_enter Tryz.func126, Tryz.ntmps126
    go_wp2_with fail
    try rw [hF]
    refine bodyPost_ret (v := .agg #[.slice A 0 c, .bool b]) (by simp [results, Tryz.results126, go_sem, r0, r1]) rfl ?_
    exact ⟨_, rfl, by rw [Int.zero_mul]; exact HRI.out, HFB.out⟩
  have hL0 : 0 < L := by
    rw [hL]
    exact List.length_pos_iff.2 fun e => by have := (dg_eq_nil (by decide)).1 e; omega
  have hLz : ((L : Int) == 0) = false := by rw [beq_eq_false_iff_ne]; omega
  obtain ⟨A', c', he, hlc, hcm, hrow⟩ : ∃ A' c', (Value.slice A L c) = .slice A' (dg 10 z.natAbs).length c' ∧ (dg 10 z.natAbs).length ≤ c' ∧ c' ≤ 9223372036854775807 ∧ Row .i64 w A' (dg 10 z.natAbs) := by
    obtain ⟨p, e, A', c', e2, x⟩ := h
    cases e
    exact ⟨A', c', e2, x⟩
  cases he
  have HROW := Lib.hid (hrow.below HBEL.out)
  have HL := Lib.hid hL
  have HM := Lib.hid hm
  have HBZ := Lib.hid hbz
  have hsg : decide (z * 10 ^ n < 0) = b := by
    rw [hbz]
    apply decide_eq_decide.2
    have hp : (0 : Int) < 10 ^ n := Int.pow_pos (by decide)
    constructor
    · intro h1
      by_cases h2 : z < 0
      · exact h2
      · have := Int.mul_nonneg (Int.not_lt.1 h2) (Int.le_of_lt hp)
        omega
    · intro h1
      exact Int.mul_neg_of_neg_of_pos h1 hp
  have hab : (z * 10 ^ n).natAbs = z.natAbs * 10 ^ n := by
    rw [Int.natAbs_mul, Int.natAbs_pow]; rfl
  have HSG := Lib.hid (And.intro hsg hab)
  have HZ : Hid (0 < z.natAbs) := by show _ < _; omega
  have hmk := make_nat n (n : Int) rfl (by omega)
  clear hsg hab hlc hcm hrow hbz hL h hm
  obtain ⟨L, hLL⟩ : ∃ L, (dg 10 z.natAbs).length = L := ⟨_, rfl⟩
  rw [hLL] at c0 hL0 hLz HR hW ⊢
  have HLL := Lib.hid hLL
  clear hLL
  go_enter Tryz.func126, Tryz.ntmps126
  go_upto_region 3 with fail
  go_cut [17] from 10 to 17 (fun v wx => ∃ A n' c b, wx.cell? ⟨w.heap.size + 1, 0, none⟩ = some (.slice A n' c) ∧ wx.cell? ⟨w.heap.size + 1, 1, none⟩ = some (.bool b) ∧ Hid (Ri wx (.agg #[.slice A n' c, .bool b]) (z * 10 ^ n)) ∧ Hid (Below w.heap.size w wx))
  case first =>
    have HSTL : StableL [(fun _ v => v = .int .i64 (n : Int)), (fun w v => ∃ g, v = .slice (some ⟨g, 0, none⟩) n n ∧ w.ownsRow 0 3 1 (.slice (some ⟨g, 0, none⟩) n n) n ((List.replicate n (0 : Int)).map (Value.int .i64))), (fun _ v => v = .pointer (some ⟨w.heap.size, 0, none⟩)), (fun _ v => v = .slice A L c), (fun w v => Dg 10 w v (z.natAbs * 10 ^ n)), (fun _ v => v = .pointer (some ⟨w.heap.size, 1, none⟩)), (fun _ v => v = .bool b), (fun w v => Ri w v (z * 10 ^ n)), (fun _ _ => True)] := ⟨(fun _ _ _ _ h => h), (fun _ _ _ hb ⟨g, e, h⟩ => ⟨g, e, own_below h hb⟩), (fun _ _ _ _ h => h), (fun _ _ _ _ h => h), (fun _ _ _ hb h => Dg.below h hb), (fun _ _ _ _ h => h), (fun _ _ _ _ h => h), (fun _ _ _ hb h => Ri.below h hb), (fun _ _ _ _ h => h), trivial⟩
    refine wp_region_p [10, 11, 12, 13, 14, 15, 16, 17] [10, 11, 12, 13, 14, 15, 16, 17, 1000] [(fun _ v => v = .int .i64 (n : Int)), (fun w v => ∃ g, v = .slice (some ⟨g, 0, none⟩) n n ∧ w.ownsRow 0 3 1 (.slice (some ⟨g, 0, none⟩) n n) n ((List.replicate n (0 : Int)).map (Value.int .i64))), (fun _ v => v = .pointer (some ⟨w.heap.size, 0, none⟩)), (fun _ v => v = .slice A L c), (fun w v => Dg 10 w v (z.natAbs * 10 ^ n)), (fun _ v => v = .pointer (some ⟨w.heap.size, 1, none⟩)), (fun _ v => v = .bool b), (fun w v => Ri w v (z * 10 ^ n)), (fun _ _ => True)] 8 (fun _ wx => ∃ A n' c b, wx.cell? ⟨w.heap.size + 1, 0, none⟩ = some (.slice A n' c) ∧ wx.cell? ⟨w.heap.size + 1, 1, none⟩ = some (.bool b) ∧ Hid (Ri wx (.agg #[.slice A n' c, .bool b]) (z * 10 ^ n)) ∧ Hid (Below w.heap.size w wx)) 9 rfl (by kernel_rfl) (by kernel_rfl) ?_ ⟨?_, ?_, ?_, ?_, ?_, ?_, ?_, ?_, ?_, trivial⟩
    · intro l us wx hl hJ
      have HF := Lib.hid (hJ.ended hl (by decide))
      clear hl hJ
      simp only [At, List.foldl_cons, List.foldl_nil, List.setIfInBounds_toArray, List.set_cons_zero, List.set_cons_succ]
      go_wp2_with fail
      go_meet
      exact HF.out
    · refine opAt rfl ?_
      intro l us wx hJ hp hl K hK
      have HJ := Lib.hid hJ; have HP := Lib.hid hp; have HLI := Lib.hid hl; have HF := Lib.hid (hJ.live hl (by decide)); have HBX := Lib.hid (hJ.below HF.out); have HK := hK
      clear hJ hp hl hK
      simp only [At, List.foldl_cons, List.foldl_nil, List.setIfInBounds_toArray, List.set_cons_zero, List.set_cons_succ] at HK
      have HK := Lib.hid HK
      simp only [At, List.foldl_cons, List.foldl_nil, List.setIfInBounds_toArray, List.set_cons_zero, List.set_cons_succ]
      refine ⟨?_⟩
      go_simp
      exact HK.out (upd us 10 (.int .i64 (n : Int))) wx (by exact HJ.out.go HSTL (by kernel_rfl) 0 HF.out (by decide) (by decide) HP.out (Below.refl _ _) (.int .i64 (n : Int)) (rfl))
    · refine opAt rfl ?_
      intro l us wx hJ hp hl K hK
      have HJ := Lib.hid hJ; have HP := Lib.hid hp; have HLI := Lib.hid hl; have HF := Lib.hid (hJ.live hl (by decide)); have HBX := Lib.hid (hJ.below HF.out); have HK := hK
      clear hJ hp hl hK
      simp only [At, List.foldl_cons, List.foldl_nil, List.setIfInBounds_toArray, List.set_cons_zero, List.set_cons_succ] at HK
      have HK := Lib.hid HK
      have h10 : us 10 = .int .i64 (n : Int) := HJ.out.val HF.out 0 (by decide) (HP.out 0 (by kernel_rfl))
      simp only [At, List.foldl_cons, List.foldl_nil, List.setIfInBounds_toArray, List.set_cons_zero, List.set_cons_succ]
      refine ⟨?_⟩
      go_simp
      obtain ⟨w9, hw9, how⟩ : ∃ w9, wx.alloc (.cells (madeCells #[.int .i64 0] n) 3) = w9 ∧ w9.ownsRow wx.heap.size 3 1 (.slice (some ⟨wx.heap.size, 0, none⟩) n n) n ((List.replicate n (0 : Int)).map (Value.int .i64)) := ⟨_, rfl, own_zeros wx n (by omega)⟩
      have HC : Hid (Below wx.heap.size wx w9) := by show Below _ _ _; rw [← hw9]; exact (Below.refl _ _).alloc (Nat.le_refl _) _
      rw [hw9]
      have HOW := Lib.hid (own_mono how (Nat.zero_le _))
      clear how hw9
      exact HK.out (upd (upd us 10 (.int .i64 (n : Int))) 11 (.slice (some ⟨wx.heap.size, 0, none⟩) n n)) w9 (by rw [upd_self h10]; exact HJ.out.go HSTL (by kernel_rfl) 1 HF.out (by decide) (by decide) HP.out HC.out (.slice (some ⟨wx.heap.size, 0, none⟩) n n) (⟨_, rfl, HOW.out⟩))
    · refine opAt rfl ?_
      intro l us wx hJ hp hl K hK
      have HJ := Lib.hid hJ; have HP := Lib.hid hp; have HLI := Lib.hid hl; have HF := Lib.hid (hJ.live hl (by decide)); have HBX := Lib.hid (hJ.below HF.out); have HK := hK
      clear hJ hp hl hK
      simp only [At, List.foldl_cons, List.foldl_nil, List.setIfInBounds_toArray, List.set_cons_zero, List.set_cons_succ] at HK
      have HK := Lib.hid HK
      simp only [At, List.foldl_cons, List.foldl_nil, List.setIfInBounds_toArray, List.set_cons_zero, List.set_cons_succ]
      refine ⟨?_⟩
      go_simp
      exact HK.out (upd us 12 (.pointer (some ⟨w.heap.size, 0, none⟩))) wx (by exact HJ.out.go HSTL (by kernel_rfl) 2 HF.out (by decide) (by decide) HP.out (Below.refl _ _) (.pointer (some ⟨w.heap.size, 0, none⟩)) (rfl))
    · refine opAt rfl ?_
      intro l us wx hJ hp hl K hK
      have HJ := Lib.hid hJ; have HP := Lib.hid hp; have HLI := Lib.hid hl; have HF := Lib.hid (hJ.live hl (by decide)); have HBX := Lib.hid (hJ.below HF.out); have HK := hK
      clear hJ hp hl hK
      simp only [At, List.foldl_cons, List.foldl_nil, List.setIfInBounds_toArray, List.set_cons_zero, List.set_cons_succ] at HK
      have HK := Lib.hid HK
      have h12 : us 12 = .pointer (some ⟨w.heap.size, 0, none⟩) := HJ.out.val HF.out 2 (by decide) (HP.out 2 (by kernel_rfl))
      have c0 := keep_cell HBX.out c0
      simp only [At, List.foldl_cons, List.foldl_nil, List.setIfInBounds_toArray, List.set_cons_zero, List.set_cons_succ]
      refine ⟨?_⟩
      go_simp
      exact HK.out (upd (upd us 12 (.pointer (some ⟨w.heap.size, 0, none⟩))) 13 (.slice A L c)) wx (by rw [upd_self h12]; exact HJ.out.go HSTL (by kernel_rfl) 3 HF.out (by decide) (by decide) HP.out (Below.refl _ _) (.slice A L c) (rfl))
    · refine opAt rfl ?_
      intro l us wx hJ hp hl K hK
      have HJ := Lib.hid hJ; have HP := Lib.hid hp; have HLI := Lib.hid hl; have HF := Lib.hid (hJ.live hl (by decide)); have HBX := Lib.hid (hJ.below HF.out); have HK := hK
      clear hJ hp hl hK
      simp only [At, List.foldl_cons, List.foldl_nil, List.setIfInBounds_toArray, List.set_cons_zero, List.set_cons_succ] at HK
      have HK := Lib.hid HK
      have h11 : ∃ g, us 11 = .slice (some ⟨g, 0, none⟩) n n ∧ wx.ownsRow 0 3 1 (.slice (some ⟨g, 0, none⟩) n n) n ((List.replicate n (0 : Int)).map (Value.int .i64)) := HJ.out.val HF.out 1 (by decide) (HP.out 1 (by kernel_rfl))
      obtain ⟨g, e11, hown⟩ := h11
      have h13 : us 13 = .slice A L c := HJ.out.val HF.out 3 (by decide) (HP.out 3 (by kernel_rfl))
      refine ⟨?_⟩
      refine step_app ?_ (.tmp 11) (.tmp 13) ?_ 0 g n z.natAbs ?_ hown A c ?_ (HROW.out.below HBX.out) HZ.out ?_ ?_
      · rfl
      · rfl
      · simp [Act.eval, At, e11]
      · rw [HLL.out]; simp [Act.eval, At, h13]
      · have := HM.out; rw [HLL.out] at this ⊢; omega
      intro v9 w9 hv9 hb9
      have HV := Lib.hid hv9; have HC := Lib.hid hb9
      clear hv9 hb9
      simp only [At, List.foldl_cons, List.foldl_nil, List.setIfInBounds_toArray, List.set_cons_zero, List.set_cons_succ]
      go_simp
      exact HK.out (upd (upd (upd us 11 (.slice (some ⟨g, 0, none⟩) n n)) 13 (.slice A L c)) 14 (v9)) w9 (by rw [upd_self e11, upd_self h13]; exact HJ.out.go HSTL (by kernel_rfl) 4 HF.out (by decide) (by decide) HP.out HC.out (v9) (HV.out))
    · refine opAt rfl ?_
      intro l us wx hJ hp hl K hK
      have HJ := Lib.hid hJ; have HP := Lib.hid hp; have HLI := Lib.hid hl; have HF := Lib.hid (hJ.live hl (by decide)); have HBX := Lib.hid (hJ.below HF.out); have HK := hK
      clear hJ hp hl hK
      simp only [At, List.foldl_cons, List.foldl_nil, List.setIfInBounds_toArray, List.set_cons_zero, List.set_cons_succ] at HK
      have HK := Lib.hid HK
      simp only [At, List.foldl_cons, List.foldl_nil, List.setIfInBounds_toArray, List.set_cons_zero, List.set_cons_succ]
      refine ⟨?_⟩
      go_simp
      exact HK.out (upd us 15 (.pointer (some ⟨w.heap.size, 1, none⟩))) wx (by exact HJ.out.go HSTL (by kernel_rfl) 5 HF.out (by decide) (by decide) HP.out (Below.refl _ _) (.pointer (some ⟨w.heap.size, 1, none⟩)) (rfl))
    · refine opAt rfl ?_
      intro l us wx hJ hp hl K hK
      have HJ := Lib.hid hJ; have HP := Lib.hid hp; have HLI := Lib.hid hl; have HF := Lib.hid (hJ.live hl (by decide)); have HBX := Lib.hid (hJ.below HF.out); have HK := hK
      clear hJ hp hl hK
      simp only [At, List.foldl_cons, List.foldl_nil, List.setIfInBounds_toArray, List.set_cons_zero, List.set_cons_succ] at HK
      have HK := Lib.hid HK
      have h15 : us 15 = .pointer (some ⟨w.heap.size, 1, none⟩) := HJ.out.val HF.out 5 (by decide) (HP.out 5 (by kernel_rfl))
      have c1 := keep_cell HBX.out c1
      simp only [At, List.foldl_cons, List.foldl_nil, List.setIfInBounds_toArray, List.set_cons_zero, List.set_cons_succ]
      refine ⟨?_⟩
      go_simp
      exact HK.out (upd (upd us 15 (.pointer (some ⟨w.heap.size, 1, none⟩))) 16 (.bool b)) wx (by rw [upd_self h15]; exact HJ.out.go HSTL (by kernel_rfl) 6 HF.out (by decide) (by decide) HP.out (Below.refl _ _) (.bool b) (rfl))
    · refine opAt rfl ?_
      intro l us wx hJ hp hl K hK
      have HJ := Lib.hid hJ; have HP := Lib.hid hp; have HLI := Lib.hid hl; have HF := Lib.hid (hJ.live hl (by decide)); have HBX := Lib.hid (hJ.below HF.out); have HK := hK
      clear hJ hp hl hK
      simp only [At, List.foldl_cons, List.foldl_nil, List.setIfInBounds_toArray, List.set_cons_zero, List.set_cons_succ] at HK
      have HK := Lib.hid HK
      have h14 : Dg 10 wx (us 14) (z.natAbs * 10 ^ n) := HJ.out.val HF.out 4 (by decide) (HP.out 4 (by kernel_rfl))
      obtain ⟨A14, n14, q14, e14⟩ := h14.form
      have h16 : us 16 = .bool b := HJ.out.val HF.out 6 (by decide) (HP.out 6 (by kernel_rfl))
      simp only [At, List.foldl_cons, List.foldl_nil, List.setIfInBounds_toArray, List.set_cons_zero, List.set_cons_succ]
      refine ⟨?_⟩
      go_simp
      exact HK.out (upd (upd (upd us 14 (.slice A14 n14 q14)) 16 (.bool b)) 17 (.agg #[.slice A14 n14 q14, .bool b])) wx (by rw [upd_self e14, upd_self h16]; exact HJ.out.go HSTL (by kernel_rfl) 7 HF.out (by decide) (by decide) HP.out (Below.refl _ _) (.agg #[.slice A14 n14 q14, .bool b]) (⟨_, by rw [HSG.out.1], by rw [HSG.out.2, ← e14]; exact h14⟩))
    · refine opAt rfl ?_
      intro l us wx hJ hp hl K hK
      have HJ := Lib.hid hJ; have HP := Lib.hid hp; have HLI := Lib.hid hl; have HF := Lib.hid (hJ.live hl (by decide)); have HBX := Lib.hid (hJ.below HF.out); have HK := hK
      clear hJ hp hl hK
      simp only [At, List.foldl_cons, List.foldl_nil, List.setIfInBounds_toArray, List.set_cons_zero, List.set_cons_succ] at HK
      have HK := Lib.hid HK
      have h17 : Ri wx (us 17) (z * 10 ^ n) := HJ.out.val HF.out 7 (by decide) (HP.out 7 (by kernel_rfl))
      obtain ⟨A17, n17, q17, b17, e17⟩ := h17.form
      rw [e17] at h17
      have hb9 := heapB HBX.out HK1.out
      obtain ⟨d0, d1⟩ := two_cells hb9
      have f0 := free_of_heap hb9 0; have f1 := free_of_heap hb9 1
      obtain ⟨F, hF, r0, r1, hri, hfb⟩ := ri_put h17 hb9
      have HR9 := Lib.hid hri; have HFB := Lib.hid (hfb w.heap.size w (by omega) (belowT HBEL.out HBX.out))
      clear hri hfb h17
      simp only [At, List.foldl_cons, List.foldl_nil, List.setIfInBounds_toArray, List.set_cons_zero, List.set_cons_succ]
      refine ⟨?_⟩
      go_simp
      (try rw [hF])
      exact HK.out (upd us 17 (.agg #[.slice A17 n17 q17, .bool b17])) _ (by rw [upd_self e17]; exact HJ.out.store (by kernel_rfl) HLI.out HP.out (⟨A17, n17, q17, b17, r0, r1, HR9.out, HFB.out⟩))
  case rest =>
    obtain ⟨A, n', c, b, r0, r1, HR, HB⟩ := hcut
    go_wp2_with fail
    refine bodyPost_ret (v := .agg #[.slice A n' c, .bool b]) (by simp [results, Tryz.results126, go_sem, r0, r1]) rfl ?_
    exact ⟨_, rfl, HR.out, HB.out⟩
end Go.Proofs.YtekbfommnmikbaaGreatDoor
/- The reference of layer 2: at, Order, Plus, Times, Whole, FromNumber. -/
namespace Go.Proofs.YtekbfommnmikbaaGreatDoor
set_option linter.unusedVariables false
set_option linter.unusedSimpArgs false
open Go.RowKit Go.Shelf Go.Proofs
attribute [local go_sem ↓] Go.wp_at_zero Go.wp_at_succ
attribute [local go_sem] max2_int min2_int max_two min_two

theorem Dc.drew {w : World} {v : Value} {z e : Int} (h : Dc w v z e) : Dc w.drew v z e := h.below (Below.refl _ _).drew
theorem Dc.form {w : World} {v : Value} {z e : Int} (h : Dc w v z e) : ∃ A n c b, v = .agg #[.slice A n c, .bool b, .int .i64 e] := by
  obtain ⟨A, n, c, b, h1, h2⟩ := h
  exact ⟨A, n, c, b, h1⟩
theorem dg_shift_le {z : Int} {m : Nat} (n : Nat) (h : (dg 10 z.natAbs).length ≤ m) : (dg 10 (z * 10 ^ n).natAbs).length ≤ m + n := by
  have e : (z * 10 ^ n).natAbs = z.natAbs * 10 ^ n := by rw [Int.natAbs_mul, Int.natAbs_pow]; rfl
  rw [e]
  by_cases h0 : 0 < z.natAbs
  · rw [dg_shift h0, List.length_append, List.length_replicate]; omega
  · have : z.natAbs = 0 := by omega
    rw [this, Nat.zero_mul, dg_zero]; exact Nat.zero_le _
/-- The least of two. -/
def mn (a b : Int) : Int := if b < a then b else a
theorem mn_le (a b : Int) : mn a b ≤ a ∧ mn a b ≤ b := by unfold mn; split <;> omega

set_option maxRecDepth 100000 in
set_option maxHeartbeats 8000000 in
theorem sat_c (v : Value) (z e d : Int) (k : Nat) (w : World) (h : Dc w v z e) (hm : (dg 10 z.natAbs).length ≤ 1000000) (hk : e - d = (k : Int)) (hn : k ≤ 1000000) (he0 : -1000000 ≤ e) (he1 : e ≤ 1000000) :
    Calls Tryz.prog 118 #[v, .int .i64 d] w (RiP (z * 10 ^ k) w) := by
  obtain ⟨A, n, c, b, rfl, hri⟩ := h
  obtain ⟨W, hW, k0, k1, hbel, hsz⟩ := bx2h w #[.slice A n c, .bool b, .int .i64 e] #[.slice none 0 0, .bool false] 60 58
  obtain ⟨c0, c1, c2⟩ := three_cells k0
  have HK1 := Lib.hid k1
  have HBEL := Lib.hid hbel
  have HZ := Lib.hid (zeros_c (.agg #[.slice A n c, .bool b]) z (e - d) k W (hri.below hbel) hm hk hn)
  have hw : IntKind.i64.wrap (e - d) = e - d := IntWalk.i64_in _ (by omega)
  have HKK := Lib.hid hk
  clear k0 k1 hbel hk
  go_enter Tryz.func118, Tryz.ntmps118
  go_wp2_with (go_at_call 126; (with_reducible refine (HZ.out).mono ?_); rintro en w2 ⟨v, rfl, hv, hbz⟩; obtain ⟨A9, n9, c9, b9, rfl⟩ := hv.form; have hhx := heapB hbz HK1.out; obtain ⟨x0, x1⟩ := two_cells hhx; have y0 := free_of_heap hhx 0; have y1 := free_of_heap hhx 1; have HV := Lib.hid hv; have HX := Lib.hid hhx; have HB2 := Lib.hid (belowT HBEL.out hbz); clear hv hbz hhx)
  obtain ⟨F, hF, r0, r1, hri, hfb⟩ := ri_put HV.out HX.out
  rw [hF]
  refine bodyPost_ret (v := .agg #[.slice A9 n9 c9, .bool b9]) (by simp [results, Tryz.results118, go_sem, r0, r1]) rfl ?_
  exact ⟨_, rfl, hri, hfb _ _ (by omega) HB2.out⟩

set_option maxRecDepth 100000 in
set_option maxHeartbeats 8000000 in
theorem sorder_c (v1 v2 : Value) (x ex y ey : Int) (w : World) (h1 : Dc w v1 x ex) (h2 : Dc w v2 y ey) (hx : (dg 10 x.natAbs).length ≤ 1000) (hy : (dg 10 y.natAbs).length ≤ 1000) (a0 : -10000 ≤ ex) (a1 : ex ≤ 10000) (b0 : -10000 ≤ ey) (b1 : ey ≤ 10000) :
    Calls Tryz.prog 44 #[v1, v2] w fun en w' => en = .returned (.int .i64 (sgn (x * 10 ^ (ex - mn ex ey).toNat - y * 10 ^ (ey - mn ex ey).toNat))) ∧ Below w.heap.size w w' := by
  obtain ⟨A1, n1, p1, s1, rfl, hr1⟩ := h1
  obtain ⟨A2, n2, p2, s2, rfl, hr2⟩ := h2
  obtain ⟨W, hW, k0, k1, hbel, hsz⟩ := bx2h w #[.slice A1 n1 p1, .bool s1, .int .i64 ex] #[.slice A2 n2 p2, .bool s2, .int .i64 ey] 60 60
  obtain ⟨c0, c1, c2⟩ := three_cells k0
  obtain ⟨z0, z1, z2⟩ := three_cells k1
  have HBEL := Lib.hid hbel
  have HD1 : Hid (Dc W (.agg #[.slice A1 n1 p1, .bool s1, .int .i64 ex]) x ex) := ⟨A1, n1, p1, s1, rfl, hr1.below hbel⟩
  have HD2 : Hid (Dc W (.agg #[.slice A2 n2 p2, .bool s2, .int .i64 ey]) y ey) := ⟨A2, n2, p2, s2, rfl, hr2.below hbel⟩
  obtain ⟨m, hm⟩ : ∃ m, mn ex ey = m := ⟨_, rfl⟩
  have hmn : (if ey < ex then ey else ex) = m := hm
  obtain ⟨hm1, hm2⟩ := mn_le ex ey
  rw [hm] at hm1 hm2 ⊢
  have hm0 : -10000 ≤ m := by unfold mn at hm; split at hm <;> omega
  obtain ⟨k, hk⟩ : ∃ k, (ex - m).toNat = k := ⟨_, rfl⟩
  obtain ⟨j, hj⟩ : ∃ j, (ey - m).toNat = j := ⟨_, rfl⟩
  rw [hk, hj]
  have HKJ := Lib.hid (show ex - m = (k : Int) ∧ k ≤ 20000 ∧ ey - m = (j : Int) ∧ j ≤ 20000 from ⟨by omega, by omega, by omega, by omega⟩)
  have HFX := Lib.hid (dg_shift_le k hx)
  have HFY := Lib.hid (dg_shift_le j hy)
  have HAX := Lib.hid (fun w' (hb : Below W.heap.size W w') => sat_c _ x ex m k w' (HD1.out.below hb) (by omega) HKJ.out.1 (by have := HKJ.out.2.1; omega) (by omega) (by omega))
  have HAY := Lib.hid (fun w' (hb : Below W.heap.size W w') => sat_c _ y ey m j w' (HD2.out.below hb) (by omega) HKJ.out.2.2.1 (by have := HKJ.out.2.2.2; omega) (by omega) (by omega))
  have HOR := Lib.hid (fun v1 v2 w' h1 h2 => rorder_c v1 v2 (x * 10 ^ k) (y * 10 ^ j) w' h1 h2 (by have := HFX.out; have := HKJ.out.2.1; omega) (by have := HFY.out; have := HKJ.out.2.2.2; omega))
  clear k0 k1 hbel hk hj hm hr1 hr2 hx hy
  go_enter Tryz.func44, Tryz.ntmps44
  go_upto_region 2 with fail
  try rw [hmn]
  clear hmn
  go_cut [4] from 11 to 17 (fun v wx => v = .int .i64 (sgn (x * 10 ^ k - y * 10 ^ j)) ∧ Hid (Below W.heap.size W wx))
  case first =>
    have HSTL : StableL [(fun _ v => v = .agg #[.slice A1 n1 p1, .bool s1, .int .i64 ex]), (fun _ v => v = .int .i64 m), (fun w v => Ri w v (x * 10 ^ k)), (fun _ v => v = .agg #[.slice A2 n2 p2, .bool s2, .int .i64 ey]), (fun _ v => v = .int .i64 m), (fun w v => Ri w v (y * 10 ^ j)), (fun _ v => v = .int .i64 (sgn (x * 10 ^ k - y * 10 ^ j))), (fun _ v => v = .int .i64 (sgn (x * 10 ^ k - y * 10 ^ j)))] := ⟨(fun _ _ _ _ h => h), (fun _ _ _ _ h => h), (fun _ _ _ hb h => Ri.below h hb), (fun _ _ _ _ h => h), (fun _ _ _ _ h => h), (fun _ _ _ hb h => Ri.below h hb), (fun _ _ _ _ h => h), (fun _ _ _ _ h => h), trivial⟩
    refine wp_region_p [11, 12, 13, 14, 15, 16, 17, 4] [11, 12, 13, 14, 15, 16, 17, 4] [(fun _ v => v = .agg #[.slice A1 n1 p1, .bool s1, .int .i64 ex]), (fun _ v => v = .int .i64 m), (fun w v => Ri w v (x * 10 ^ k)), (fun _ v => v = .agg #[.slice A2 n2 p2, .bool s2, .int .i64 ey]), (fun _ v => v = .int .i64 m), (fun w v => Ri w v (y * 10 ^ j)), (fun _ v => v = .int .i64 (sgn (x * 10 ^ k - y * 10 ^ j))), (fun _ v => v = .int .i64 (sgn (x * 10 ^ k - y * 10 ^ j)))] 8 (fun _ _ => True) 8 rfl (by kernel_rfl) (by kernel_rfl) ?_ ⟨?_, ?_, ?_, ?_, ?_, ?_, ?_, ?_, trivial⟩
    · intro l us wx hl hJ
      have HNF := hJ.nofin (by kernel_rfl)
      have HB := Lib.hid (hJ.below HNF)
      have h4 : us 4 = .int .i64 (sgn (x * 10 ^ k - y * 10 ^ j)) := hJ.val HNF 7 (by decide) (hl 7 (by decide))
      clear hl hJ
      simp only [At, List.foldl_cons, List.foldl_nil, List.setIfInBounds_toArray, List.set_cons_zero, List.set_cons_succ]
      go_wp2_with fail
      go_meet
      exact ⟨by first | rfl | assumption, HB⟩
    · refine opAt rfl ?_
      intro l us wx hJ hp hl K hK
      have HJ := Lib.hid hJ; have HP := Lib.hid hp; have HLI := Lib.hid hl; have HF := Lib.hid (hJ.live hl (by decide)); have HBX := Lib.hid (hJ.below HF.out); have HK := hK
      clear hJ hp hl hK
      simp only [At, List.foldl_cons, List.foldl_nil, List.setIfInBounds_toArray, List.set_cons_zero, List.set_cons_succ] at HK
      have HK := Lib.hid HK
      have c0 := keep_cell HBX.out c0
      have c1 := keep_cell HBX.out c1
      have c2 := keep_cell HBX.out c2
      simp only [At, List.foldl_cons, List.foldl_nil, List.setIfInBounds_toArray, List.set_cons_zero, List.set_cons_succ]
      refine ⟨?_⟩
      go_simp
      exact HK.out (upd us 11 (.agg #[.slice A1 n1 p1, .bool s1, .int .i64 ex])) wx (by exact HJ.out.go HSTL (by kernel_rfl) 0 HF.out (by decide) (by decide) HP.out (Below.refl _ _) (.agg #[.slice A1 n1 p1, .bool s1, .int .i64 ex]) (rfl))
    · refine opAt rfl ?_
      intro l us wx hJ hp hl K hK
      have HJ := Lib.hid hJ; have HP := Lib.hid hp; have HLI := Lib.hid hl; have HF := Lib.hid (hJ.live hl (by decide)); have HBX := Lib.hid (hJ.below HF.out); have HK := hK
      clear hJ hp hl hK
      simp only [At, List.foldl_cons, List.foldl_nil, List.setIfInBounds_toArray, List.set_cons_zero, List.set_cons_succ] at HK
      have HK := Lib.hid HK
      simp only [At, List.foldl_cons, List.foldl_nil, List.setIfInBounds_toArray, List.set_cons_zero, List.set_cons_succ]
      refine ⟨?_⟩
      go_simp
      exact HK.out (upd us 12 (.int .i64 m)) wx (by exact HJ.out.go HSTL (by kernel_rfl) 1 HF.out (by decide) (by decide) HP.out (Below.refl _ _) (.int .i64 m) (rfl))
    · refine opAt rfl ?_
      intro l us wx hJ hp hl K hK
      have HJ := Lib.hid hJ; have HP := Lib.hid hp; have HLI := Lib.hid hl; have HF := Lib.hid (hJ.live hl (by decide)); have HBX := Lib.hid (hJ.below HF.out); have HK := hK
      clear hJ hp hl hK
      simp only [At, List.foldl_cons, List.foldl_nil, List.setIfInBounds_toArray, List.set_cons_zero, List.set_cons_succ] at HK
      have HK := Lib.hid HK
      have h11 : us 11 = .agg #[.slice A1 n1 p1, .bool s1, .int .i64 ex] := HJ.out.val HF.out 0 (by decide) (HP.out 0 (by kernel_rfl))
      have h12 : us 12 = .int .i64 m := HJ.out.val HF.out 1 (by decide) (HP.out 1 (by kernel_rfl))
      simp only [At, List.foldl_cons, List.foldl_nil, List.setIfInBounds_toArray, List.set_cons_zero, List.set_cons_succ]
      refine ⟨?_⟩
      go_simp
      go_wp2_with ((go_at_call 118; (with_reducible refine (HAX.out _ HBX.out).mono ?_); rintro en w9 ⟨v9, rfl, hv9, hbz⟩; have HV := Lib.hid hv9; clear hv9; have HC := Lib.hid hbz; clear hbz))
      exact HK.out (upd (upd (upd us 11 (.agg #[.slice A1 n1 p1, .bool s1, .int .i64 ex])) 12 (.int .i64 m)) 13 (v9)) w9 (by rw [upd_self h11, upd_self h12]; exact HJ.out.go HSTL (by kernel_rfl) 2 HF.out (by decide) (by decide) HP.out HC.out (v9) (HV.out))
    · refine opAt rfl ?_
      intro l us wx hJ hp hl K hK
      have HJ := Lib.hid hJ; have HP := Lib.hid hp; have HLI := Lib.hid hl; have HF := Lib.hid (hJ.live hl (by decide)); have HBX := Lib.hid (hJ.below HF.out); have HK := hK
      clear hJ hp hl hK
      simp only [At, List.foldl_cons, List.foldl_nil, List.setIfInBounds_toArray, List.set_cons_zero, List.set_cons_succ] at HK
      have HK := Lib.hid HK
      have z0 := keep_cell HBX.out z0
      have z1 := keep_cell HBX.out z1
      have z2 := keep_cell HBX.out z2
      simp only [At, List.foldl_cons, List.foldl_nil, List.setIfInBounds_toArray, List.set_cons_zero, List.set_cons_succ]
      refine ⟨?_⟩
      go_simp
      exact HK.out (upd us 14 (.agg #[.slice A2 n2 p2, .bool s2, .int .i64 ey])) wx (by exact HJ.out.go HSTL (by kernel_rfl) 3 HF.out (by decide) (by decide) HP.out (Below.refl _ _) (.agg #[.slice A2 n2 p2, .bool s2, .int .i64 ey]) (rfl))
    · refine opAt rfl ?_
      intro l us wx hJ hp hl K hK
      have HJ := Lib.hid hJ; have HP := Lib.hid hp; have HLI := Lib.hid hl; have HF := Lib.hid (hJ.live hl (by decide)); have HBX := Lib.hid (hJ.below HF.out); have HK := hK
      clear hJ hp hl hK
      simp only [At, List.foldl_cons, List.foldl_nil, List.setIfInBounds_toArray, List.set_cons_zero, List.set_cons_succ] at HK
      have HK := Lib.hid HK
      simp only [At, List.foldl_cons, List.foldl_nil, List.setIfInBounds_toArray, List.set_cons_zero, List.set_cons_succ]
      refine ⟨?_⟩
      go_simp
      exact HK.out (upd us 15 (.int .i64 m)) wx (by exact HJ.out.go HSTL (by kernel_rfl) 4 HF.out (by decide) (by decide) HP.out (Below.refl _ _) (.int .i64 m) (rfl))
    · refine opAt rfl ?_
      intro l us wx hJ hp hl K hK
      have HJ := Lib.hid hJ; have HP := Lib.hid hp; have HLI := Lib.hid hl; have HF := Lib.hid (hJ.live hl (by decide)); have HBX := Lib.hid (hJ.below HF.out); have HK := hK
      clear hJ hp hl hK
      simp only [At, List.foldl_cons, List.foldl_nil, List.setIfInBounds_toArray, List.set_cons_zero, List.set_cons_succ] at HK
      have HK := Lib.hid HK
      have h14 : us 14 = .agg #[.slice A2 n2 p2, .bool s2, .int .i64 ey] := HJ.out.val HF.out 3 (by decide) (HP.out 3 (by kernel_rfl))
      have h15 : us 15 = .int .i64 m := HJ.out.val HF.out 4 (by decide) (HP.out 4 (by kernel_rfl))
      simp only [At, List.foldl_cons, List.foldl_nil, List.setIfInBounds_toArray, List.set_cons_zero, List.set_cons_succ]
      refine ⟨?_⟩
      go_simp
      go_wp2_with ((go_at_call 118; (with_reducible refine (HAY.out _ HBX.out).mono ?_); rintro en w9 ⟨v9, rfl, hv9, hbz⟩; have HV := Lib.hid hv9; clear hv9; have HC := Lib.hid hbz; clear hbz))
      exact HK.out (upd (upd (upd us 14 (.agg #[.slice A2 n2 p2, .bool s2, .int .i64 ey])) 15 (.int .i64 m)) 16 (v9)) w9 (by rw [upd_self h14, upd_self h15]; exact HJ.out.go HSTL (by kernel_rfl) 5 HF.out (by decide) (by decide) HP.out HC.out (v9) (HV.out))
    · refine opAt rfl ?_
      intro l us wx hJ hp hl K hK
      have HJ := Lib.hid hJ; have HP := Lib.hid hp; have HLI := Lib.hid hl; have HF := Lib.hid (hJ.live hl (by decide)); have HBX := Lib.hid (hJ.below HF.out); have HK := hK
      clear hJ hp hl hK
      simp only [At, List.foldl_cons, List.foldl_nil, List.setIfInBounds_toArray, List.set_cons_zero, List.set_cons_succ] at HK
      have HK := Lib.hid HK
      have h13 : Ri wx (us 13) (x * 10 ^ k) := HJ.out.val HF.out 2 (by decide) (HP.out 2 (by kernel_rfl))
      obtain ⟨A13, n13, q13, b13, e13⟩ := h13.form
      have h16 : Ri wx (us 16) (y * 10 ^ j) := HJ.out.val HF.out 5 (by decide) (HP.out 5 (by kernel_rfl))
      obtain ⟨A16, n16, q16, b16, e16⟩ := h16.form
      rw [e13] at h13; rw [e16] at h16
      simp only [At, List.foldl_cons, List.foldl_nil, List.setIfInBounds_toArray, List.set_cons_zero, List.set_cons_succ]
      refine ⟨?_⟩
      go_simp
      go_wp2_with ((go_at_call 117; (with_reducible refine (HOR.out _ _ _ h13 h16).mono ?_); rintro en w9 ⟨rfl, hbz⟩; have HC := Lib.hid hbz; clear hbz))
      exact HK.out (upd (upd (upd us 13 (.agg #[.slice A13 n13 q13, .bool b13])) 16 (.agg #[.slice A16 n16 q16, .bool b16])) 17 (.int .i64 (sgn (x * 10 ^ k - y * 10 ^ j)))) w9 (by rw [upd_self e13, upd_self e16]; exact HJ.out.go HSTL (by kernel_rfl) 6 HF.out (by decide) (by decide) HP.out HC.out (.int .i64 (sgn (x * 10 ^ k - y * 10 ^ j))) (rfl))
    · refine opAt rfl ?_
      intro l us wx hJ hp hl K hK
      have HJ := Lib.hid hJ; have HP := Lib.hid hp; have HLI := Lib.hid hl; have HF := Lib.hid (hJ.live hl (by decide)); have HBX := Lib.hid (hJ.below HF.out); have HK := hK
      clear hJ hp hl hK
      simp only [At, List.foldl_cons, List.foldl_nil, List.setIfInBounds_toArray, List.set_cons_zero, List.set_cons_succ] at HK
      have HK := Lib.hid HK
      have h17 : us 17 = .int .i64 (sgn (x * 10 ^ k - y * 10 ^ j)) := HJ.out.val HF.out 6 (by decide) (HP.out 6 (by kernel_rfl))
      simp only [At, List.foldl_cons, List.foldl_nil, List.setIfInBounds_toArray, List.set_cons_zero, List.set_cons_succ]
      refine ⟨?_⟩
      go_simp
      exact HK.out (upd (upd us 17 (.int .i64 (sgn (x * 10 ^ k - y * 10 ^ j)))) 4 (.int .i64 (sgn (x * 10 ^ k - y * 10 ^ j)))) wx (by rw [upd_self h17]; exact HJ.out.go HSTL (by kernel_rfl) 7 HF.out (by decide) (by decide) HP.out (Below.refl _ _) (.int .i64 (sgn (x * 10 ^ k - y * 10 ^ j))) (rfl))
  case rest =>
    obtain ⟨rfl, HB⟩ := hcut
    go_wp2_with fail
    go_ret
    exact ⟨rfl, belowT HBEL.out HB.out⟩

end Go.Proofs.YtekbfommnmikbaaGreatDoor
/- Plain mathematics: rounding keeps the order. No program in sight. -/
namespace Go.Proofs.YtekbfommnmikbaaGreatDoor
set_option linter.unusedVariables false
set_option linter.unusedSimpArgs false

/-- The place of a magnitude among all. -/
def pl (m : Nat) (x : Int) : Int := if m = 0 then 0 else 1 + (x + 111) * 900000000000 + m - 100000000000
theorem pl_nonneg {m : Nat} {x : Int} (h : RV m x) : 0 ≤ pl m x := by
  unfold pl
  rcases h with ⟨rfl, rfl⟩ | ⟨h1, h2, h3, h4⟩
  · exact Int.le_refl _
  · rw [if_neg (by omega)]; omega
theorem pl_pos {m : Nat} {x : Int} (h1 : 100000000000 ≤ m) : pl m x = 1 + (x + 111) * 900000000000 + m - 100000000000 := by unfold pl; rw [if_neg (by omega)]
theorem fit_pl {m : Nat} {x : Int} {m' : Nat} {x' : Int} (h1 : 100000000000 ≤ m) (h : fit m x = some (m', x')) : pl m' x' = 1 + (x + 111) * 900000000000 + m - 100000000000 := by
  unfold fit at h
  split at h
  · split at h
    · cases h
    · cases h; rw [pl_pos (by omega)]; omega
  · split at h
    · cases h
    · cases h; rw [pl_pos h1]
theorem half_mono {r s k q : Nat} (h : r ≤ s) : halfUp r k q ≤ halfUp s k q := by
  unfold halfUp
  split
  · rename_i h1
    rw [if_pos]
    · exact Nat.le_refl _
    · rcases h1 with h1 | h1
      · exact .inl (by omega)
      · by_cases h2 : r = s
        · subst h2; exact .inr h1
        · exact .inl (by omega)
  · exact Nat.zero_le _
theorem rdiv_mono {m n : Nat} (h : m ≤ n) (k : Nat) : rdiv m k ≤ rdiv n k := by
  unfold rdiv
  have hq : m / 10 ^ k ≤ n / 10 ^ k := Nat.div_le_div_right h
  have h1 := half_le (m % 10 ^ k) k (m / 10 ^ k)
  by_cases e : m / 10 ^ k = n / 10 ^ k
  · rw [e]
    have a := Nat.div_add_mod m (10 ^ k)
    have b := Nat.div_add_mod n (10 ^ k)
    rw [e] at a
    have := half_mono (k := k) (q := n / 10 ^ k) (show m % 10 ^ k ≤ n % 10 ^ k by omega)
    omega
  · omega
theorem man12_mono {m n : Nat} (h : m ≤ n) (e : nd m = nd n) : man12 m ≤ man12 n := by
  unfold man12
  rw [e]
  split
  · exact Nat.mul_le_mul_right _ h
  · exact rdiv_mono h _
/-- The rounded values are in order. -/
theorem rnd_mono {n1 n2 : Nat} (h : n1 ≤ n2) (e : Int) {m2 : Nat} {x2 : Int} (h2 : rnd n2 e = some (m2, x2)) : ∃ m1 x1, rnd n1 e = some (m1, x1) ∧ pl m1 x1 ≤ pl m2 x2 := by
  have hv2 := pl_nonneg (rnd_valid h2)
  have hnd := nd_mono h
  by_cases c1 : n1 = 0 ∨ (nd n1 : Int) + e < -100
  · exact ⟨0, 0, by unfold rnd; rw [if_pos c1], hv2⟩
  have hn1 : 0 < n1 := by omega
  have hn2 : 0 < n2 := by omega
  have r2 := man12_rng hn2
  have r1 := man12_rng hn1
  have c2 : ¬ (n2 = 0 ∨ (nd n2 : Int) + e < -100) := by omega
  unfold rnd at h2 ⊢
  rw [if_neg c2] at h2
  rw [if_neg c1]
  by_cases c3 : (nd n1 : Int) + e = -100
  · rw [if_pos c3]
    by_cases c4 : 10 ^ nd n1 < 2 * n1
    · rw [if_pos c4]
      refine ⟨_, _, rfl, ?_⟩
      rw [pl_pos (by omega)]
      by_cases c5 : (nd n2 : Int) + e = -100
      · have e2 : nd n2 = nd n1 := by omega
        rw [if_pos c5, e2, if_pos (by omega)] at h2
        cases h2; rw [pl_pos (by omega)]; omega
      · rw [if_neg c5] at h2
        rw [fit_pl r2.1 h2]; omega
    · rw [if_neg c4]
      exact ⟨_, _, rfl, by have : pl 0 0 = 0 := rfl; omega⟩
  · rw [if_neg c3]
    have c5 : ¬ (nd n2 : Int) + e = -100 := by omega
    rw [if_neg c5] at h2
    have key : man12 n1 + (nd n1 : Int) * 900000000000 ≤ man12 n2 + (nd n2 : Int) * 900000000000 ∧ (nd n1 = nd n2 → man12 n1 ≤ man12 n2) := by
      by_cases e' : nd n1 = nd n2
      · have := man12_mono h e'; exact ⟨by rw [e']; omega, fun _ => this⟩
      · exact ⟨by omega, fun h => absurd h e'⟩
    have hs : ∃ p, fit (man12 n1) ((nd n1 : Int) - 12 + e) = some p := by
      unfold fit at h2 ⊢
      have k2 := key.2
      split
      · rename_i a1
        split
        · rename_i a2
          exfalso
          split at h2
          · split at h2
            · cases h2
            · omega
          · split at h2
            · cases h2
            · have : nd n1 = nd n2 := by omega
              have := k2 this; omega
        · exact ⟨_, rfl⟩
      · split
        · rename_i a2
          exfalso
          split at h2
          · split at h2
            · cases h2
            · omega
          · split at h2
            · cases h2
            · omega
        · exact ⟨_, rfl⟩
    obtain ⟨⟨m1, x1⟩, hp⟩ := hs
    refine ⟨m1, x1, hp, ?_⟩
    rw [fit_pl r1.1 hp, fit_pl r2.1 h2]
    have := key.1
    omega

end Go.Proofs.YtekbfommnmikbaaGreatDoor
/- Plain laws: rounded values with a sign, and the order of reals. -/
namespace Go.Proofs.YtekbfommnmikbaaGreatDoor
set_option linter.unusedVariables false
set_option linter.unusedSimpArgs false

/-- A magnitude and an exponent with a sign. -/
def sgo (s : Bool) : Option (Nat × Int) → Option (Int × Int)
  | some (m, x) => some (sgm s m, x)
  | none => none
/-- The rounded value of v times 10^e, with its sign. -/
def rndS (v e : Int) : Option (Int × Int) := sgo (decide (v < 0)) (rnd v.natAbs e)
theorem rndS_some {v e a b : Int} (h : rndS v e = some (a, b)) : ∃ m, rnd v.natAbs e = some (m, b) ∧ a = sgm (decide (v < 0)) m := by
  unfold rndS sgo at h
  split at h
  · rename_i m x hr
    cases h
    exact ⟨m, hr, rfl⟩
  · cases h
theorem plR_sgm (s : Bool) {m : Nat} {x : Int} (h : RV m x) : plR (sgm s m) x = if s then -pl m x else pl m x := by
  unfold sgm plR
  by_cases h0 : m = 0
  · subst h0
    cases s <;> simp [pl]
  · have h1 : plP m x = pl m x := by unfold plP pl; rw [if_neg h0]
    cases s
    · simp only [Bool.false_eq_true, if_false]
      rw [if_neg (by omega), if_neg (by omega), ← h1]; rfl
    · simp only [if_true]
      rw [if_neg (by omega), if_pos (by omega), Int.natAbs_neg, ← h1]; rfl
/-- Rounding keeps the order. -/
theorem rndS_mono {v1 v2 e a1 b1 a2 b2 : Int} (h : v1 ≤ v2) (h1 : rndS v1 e = some (a1, b1)) (h2 : rndS v2 e = some (a2, b2)) : plR a1 b1 ≤ plR a2 b2 := by
  obtain ⟨m1, r1, rfl⟩ := rndS_some h1
  obtain ⟨m2, r2, rfl⟩ := rndS_some h2
  have p1 := rnd_valid r1
  have p2 := rnd_valid r2
  rw [plR_sgm _ p1, plR_sgm _ p2]
  have n1 := pl_nonneg p1
  have n2 := pl_nonneg p2
  by_cases s1 : v1 < 0
  · rw [if_pos (by simpa using s1)]
    by_cases s2 : v2 < 0
    · rw [if_pos (by simpa using s2)]
      obtain ⟨m, x, hm, hle⟩ := rnd_mono (show v2.natAbs ≤ v1.natAbs by omega) e r1
      rw [r2] at hm
      cases hm
      omega
    · rw [if_neg (by simpa using s2)]; omega
  · rw [if_neg (by simpa using s1), if_neg (by simp; omega)]
    obtain ⟨m, x, hm, hle⟩ := rnd_mono (show v1.natAbs ≤ v2.natAbs by omega) e r2
    rw [r1] at hm
    cases hm
    exact hle
theorem rndS_mul (v : Int) (j : Nat) (e : Int) : rndS (v * 10 ^ j) (e - j) = rndS v e := by
  unfold rndS
  have hp : (0 : Int) < 10 ^ j := Int.pow_pos (by decide)
  have e1 : (v * 10 ^ j).natAbs = v.natAbs * 10 ^ j := by rw [Int.natAbs_mul, Int.natAbs_pow]; rfl
  have e2 : decide (v * 10 ^ j < 0) = decide (v < 0) := by
    apply decide_eq_decide.2
    constructor
    · intro h1
      by_cases h2 : v < 0
      · exact h2
      · have := Int.mul_nonneg (Int.not_lt.1 h2) (Int.le_of_lt hp); omega
    · intro h1; exact Int.mul_neg_of_neg_of_pos h1 hp
  rw [e1, e2, rnd_mul]
/-- The same at another scale. -/
theorem rndS_scale (v : Int) {e d : Int} (h : d ≤ e) : rndS (v * 10 ^ (e - d).toNat) d = rndS v e := by
  have := rndS_mul v (e - d).toNat e
  rwa [show e - ((e - d).toNat : Int) = d by omega] at this
theorem rndS_self {m e : Int} (h : RV m.natAbs e) : rndS m e = some (m, e) := by
  unfold rndS
  rw [rnd_self h]
  show some (sgm (decide (m < 0)) (m.natAbs : Int), e) = _
  congr 2
  unfold sgm
  by_cases h : m < 0
  · rw [if_pos (by simpa using h)]; omega
  · rw [if_neg (by simpa using h)]; omega
/-- A real as a multiple of the least power. -/
def vR (m e : Int) : Int := m * 10 ^ (e + 111).toNat
theorem rndS_vR {m e : Int} (h : RV m.natAbs e) : rndS (vR m e) (-111) = some (m, e) := by
  have he : -111 ≤ e := by rcases h with ⟨_, rfl⟩ | ⟨_, _, h, _⟩ <;> omega
  have := rndS_scale m he
  rw [show e - -111 = e + 111 by omega] at this
  unfold vR
  rw [this, rndS_self h]
theorem plR_le_of {m e m' e' : Int} (h : RV m.natAbs e) (h' : RV m'.natAbs e') (hv : vR m e ≤ vR m' e') : plR m e ≤ plR m' e' := rndS_mono hv (rndS_vR h) (rndS_vR h')
theorem plR_le {m e m' e' : Int} (h : RV m.natAbs e) (h' : RV m'.natAbs e') : plR m e ≤ plR m' e' ↔ vR m e ≤ vR m' e' := by
  refine ⟨fun hp => ?_, plR_le_of h h'⟩
  by_cases hv : vR m e ≤ vR m' e'
  · exact hv
  · have h1 := plR_le_of h' h (by omega)
    obtain ⟨rfl, rfl⟩ := plR_inj h h' (by omega)
    omega
theorem plR_lt {m e m' e' : Int} (h : RV m.natAbs e) (h' : RV m'.natAbs e') : plR m e < plR m' e' ↔ vR m e < vR m' e' := by
  have := plR_le h' h
  omega
end Go.Proofs.YtekbfommnmikbaaGreatDoor
/- Plain mathematics: what is rounded may be cut behind 13 digits, if one more digit says that something was cut off. No program in sight. -/
namespace Go.Proofs.YtekbfommnmikbaaGreatDoor
set_option linter.unusedVariables false
set_option linter.unusedSimpArgs false

end Go.Proofs.YtekbfommnmikbaaGreatDoor
/- Plain laws of the root: what it is, and that it keeps the order. -/
namespace Go.Proofs.YtekbfommnmikbaaGreatDoor
set_option linter.unusedVariables false
set_option linter.unusedSimpArgs false

end Go.Proofs.YtekbfommnmikbaaGreatDoor
/- Plain laws: the operations on reals keep the order. -/
namespace Go.Proofs.YtekbfommnmikbaaGreatDoor
set_option linter.unusedVariables false
set_option linter.unusedSimpArgs false

/-- A result and its error. -/
def resS : Option (Int × Int) → Value
  | some (a, b) => .tuple #[.agg #[.int .i64 a, .int .i64 b], .int .i64 0]
  | none => .tuple #[.agg #[.int .i64 0, .int .i64 0], .int .i64 3]
theorem resR_sgo (s : Bool) (o : Option (Nat × Int)) : resR s o = resS (sgo s o) := by
  rcases o with _ | ⟨m, x⟩ <;> rfl
theorem resR_rndS (v e : Int) : resR (decide (v < 0)) (rnd v.natAbs e) = resS (rndS v e) := resR_sgo _ _
theorem RV_exp {m : Nat} {e : Int} (h : RV m e) : -111 ≤ e ∧ e ≤ 88 := by rcases h with ⟨_, rfl⟩ | ⟨_, _, h1, h2⟩ <;> omega
end Go.Proofs.YtekbfommnmikbaaGreatDoor
