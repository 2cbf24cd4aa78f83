/- Division of parts by parts: digit by digit from the top, each digit by halving. -/
import Derived.Test.YtbjgpbdkofadiaaGreatDoorDown
import Derived.Sort.LoopGhostIn
import Derived.Sort.CutIn
import Derived.Stop.RegionWithIn
import Derived.Deep.DrawnRows
namespace Go.Proofs.YtbjgpbdkofadiaaGreatDoor
set_option linter.unusedVariables false
set_option linter.unusedSimpArgs false
open Go.RowKit Go.Shelf
attribute [local go_sem] Oper.semAt_some

/-- The rest and the quotient's digits, when some digits have been taken. -/
def ost (n : Nat) (p : List Int) : List (Ix p.length) → Nat × List Int :=
  List.foldl (fun s x => (((p[x.1]?.getD 0).toNat + 1000000000 * s.1) % n, s.2.set x.1 ((((p[x.1]?.getD 0).toNat + 1000000000 * s.1) / n : Nat) : Int))) (0, List.replicate p.length 0)

theorem ost_snoc (n : Nat) (p : List Int) (pre : List (Ix p.length)) (x : Ix p.length) :
    ost n p (pre ++ [x]) = (((p[x.1]?.getD 0).toNat + 1000000000 * (ost n p pre).1) % n, (ost n p pre).2.set x.1 ((((p[x.1]?.getD 0).toNat + 1000000000 * (ost n p pre).1) / n : Nat) : Int)) := by
  simp [ost]
theorem ost_nil (n : Nat) (p : List Int) : ost n p [] = (0, List.replicate p.length 0) := rfl
theorem ost_len (n : Nat) (p : List Int) (pre : List (Ix p.length)) : (ost n p pre).2.length = p.length := by
  have key : ∀ (l : List (Ix p.length)) (s : Nat × List Int), s.2.length = p.length → (List.foldl (fun s x => (((p[x.1]?.getD 0).toNat + 1000000000 * s.1) % n, s.2.set x.1 ((((p[x.1]?.getD 0).toNat + 1000000000 * s.1) / n : Nat) : Int))) s l).2.length = p.length := by
    intro l
    induction l with
    | nil => intro s h; exact h
    | cons x l ih => intro s h; exact ih _ (by simpa using h)
  exact key pre _ (by simp)

/-- A property that each step keeps. -/
theorem ost_ind {n : Nat} {p : List Int} (R : Nat × List Int → Prop) (h0 : R (0, List.replicate p.length 0))
    (hs : ∀ s x, R s → R (((p[(x : Ix p.length).1]?.getD 0).toNat + 1000000000 * s.1) % n, s.2.set x.1 ((((p[x.1]?.getD 0).toNat + 1000000000 * s.1) / n : Nat) : Int))) (pre : List (Ix p.length)) : R (ost n p pre) := by
  have key : ∀ (l : List (Ix p.length)) (s : Nat × List Int), R s → R (List.foldl (fun s x => (((p[x.1]?.getD 0).toNat + 1000000000 * s.1) % n, s.2.set x.1 ((((p[x.1]?.getD 0).toNat + 1000000000 * s.1) / n : Nat) : Int))) s l) := by
    intro l
    induction l with
    | nil => intro s h; exact h
    | cons x l ih => intro s h; exact ih _ (hs s x h)
  exact key pre _ h0

theorem ost_lt {n : Nat} (hn : 0 < n) {p : List Int} (pre : List (Ix p.length)) : (ost n p pre).1 < n :=
  ost_ind (fun s => s.1 < n) hn (fun s x _ => Nat.mod_lt _ hn) pre

theorem digit_lt {n r d : Nat} (hr : r < n) (hd : d < 1000000000) : (d + 1000000000 * r) / n < 1000000000 := by
  rw [Nat.div_lt_iff_lt_mul (by omega)]
  have : 1000000000 * (r + 1) ≤ 1000000000 * n := Nat.mul_le_mul_left _ (by omega)
  omega

theorem ost_inR {n : Nat} (hn : 0 < n) {p : List Int} (hp : InR 1000000000 p) (pre : List (Ix p.length)) : InR 1000000000 (ost n p pre).2 := by
  have := ost_ind (n := n) (p := p) (fun s => s.1 < n ∧ InR 1000000000 s.2) ⟨hn, InR.replicate (by decide) _⟩ (fun s x h => ⟨Nat.mod_lt _ hn, by
    have b := hp.at_ (by decide) x.1
    rw [List.getD_eq_getElem?_getD] at b
    have c := digit_lt h.1 (d := (p[x.1]?.getD 0).toNat) (by omega)
    exact h.2.set _ (Int.natCast_nonneg _) (by exact_mod_cast c)⟩) pre
  exact this.2

theorem val_drop_set {l : List Int} {j k : Nat} (hj : j < k) (x : Int) : (l.set j x).drop k = l.drop k := by
  rw [List.drop_set_of_lt hj]

/-- When the first k digits from the top are taken: rest and quotient of what they are. -/
theorem ost_dn {n : Nat} (hn : 0 < n) {p : List Int} (hp : InR 1000000000 p) : ∀ k, k ≤ p.length →
    ∃ v : Nat, val 1000000000 (p.drop (p.length - k)) = (v : Int) ∧ (ost n p (dn p.length k)).1 = v % n ∧ val 1000000000 ((ost n p (dn p.length k)).2.drop (p.length - k)) = ((v / n : Nat) : Int) := by
  intro k
  induction k with
  | zero =>
    intro _
    refine ⟨0, ?_, ?_, ?_⟩
    · simp [val]
    · rw [dn_zero, ost_nil]; simp
    · rw [dn_zero, ost_nil]; simp [val]
  | succ k ih =>
    intro hk
    obtain ⟨v, h1, h2, h3⟩ := ih (by omega)
    have hlen := ost_len n p (dn p.length k)
    have e1 : p.length - (k + 1) + 1 = p.length - k := by omega
    obtain ⟨j, hj⟩ : ∃ j, j = p.length - (k + 1) := ⟨_, rfl⟩
    have ej : p.length - 1 - k = j := by omega
    have b := hp.at_ (by decide) j
    obtain ⟨d, hd⟩ := Int.eq_ofNat_of_zero_le b.1
    have hdd : p[j]?.getD 0 = (d : Int) := by rw [← List.getD_eq_getElem?_getD]; exact hd
    refine ⟨d + 1000000000 * v, ?_, ?_, ?_⟩
    · rw [← hj, val_drop _ _ _ (by omega), show j + 1 = p.length - k from by omega, h1, hd]
      simp
    · rw [dn_succ p.length k (by omega), ost_snoc, h2]
      simp only [ej, hdd, Int.toNat_natCast]
      have e := Nat.mod_add_div v n
      have : d + 1000000000 * v = d + 1000000000 * (v % n) + n * (1000000000 * (v / n)) := by
        conv => lhs; rw [← e]
        rw [Nat.mul_add, ← Nat.add_assoc, Nat.mul_left_comm]
      rw [this, Nat.add_mul_mod_self_left]
    · rw [dn_succ p.length k (by omega), ost_snoc, h2]
      simp only [ej, hdd, Int.toNat_natCast]
      rw [← hj, val_drop _ _ _ (by simp [hlen]; omega), getD_set _ _ _ _ (by omega), if_pos rfl, val_drop_set (by omega), show j + 1 = p.length - k from by omega, h3]
      have e := Nat.mod_add_div v n
      have : d + 1000000000 * v = d + 1000000000 * (v % n) + n * (1000000000 * (v / n)) := by
        conv => lhs; rw [← e]
        rw [Nat.mul_add, ← Nat.add_assoc, Nat.mul_left_comm]
      rw [this, Nat.add_mul_div_left _ _ hn]
      simp


/-- What a round keeps. -/
structure Ov (B Bs : Nat) (W W' : World) : Prop where
  b : Below B W W'
  ko : KeepsOthers W W'
  bx : W'.heap[Bs]? = W.heap[Bs]?
  lt : B ≤ W.heap.size ∧ Bs < W.heap.size
theorem keepsOthers_below {W W' : World} (h : Below W.heap.size W W') : KeepsOthers W W' :=
  ⟨h.size, fun k o hk _ => (h.block k (Array.getElem?_eq_some_iff.1 hk).1).trans hk⟩
theorem Ov.refl {B Bs : Nat} {W : World} (h : B ≤ W.heap.size) (h' : Bs < W.heap.size) : Ov B Bs W W := ⟨Below.refl _ _, KeepsOthers.refl _, rfl, h, h'⟩
theorem Ov.call {B Bs : Nat} {W W1 W2 : World} (h : Ov B Bs W W1) (k : Below W1.heap.size W1 W2) : Ov B Bs W W2 :=
  ⟨h.b.trans (k.mono (Nat.le_trans h.lt.1 h.b.size)), h.ko.trans (keepsOthers_below k), (k.block Bs (Nat.lt_of_lt_of_le h.lt.2 h.b.size)).trans h.bx, h.lt⟩
theorem Ov.drew {B Bs : Nat} {W W1 : World} (h : Ov B Bs W W1) : Ov B Bs W W1.drew := h.call (Below.refl _ _).drew
theorem Ov.alloc {B Bs : Nat} {W W1 : World} (h : Ov B Bs W W1) (o : Obj) : Ov B Bs W (W1.alloc o) := h.call ((Below.refl _ _).alloc (Nat.le_refl _) o)
theorem Ov.set {B Bs : Nat} {W W1 : World} (h : Ov B Bs W W1) {a : Addr} (v : Value) (h1 : B ≤ a.block) (h2 : a.block ≠ Bs) : Ov B Bs W (W1.setCell a v) :=
  ⟨h.b.setCell h1 v, h.ko.trans (KeepsOthers.setCell _ _ _), (heap_setCell_other W1 a Bs v (fun e => h2 e.symm)).trans h.bx, h.lt⟩
theorem Ov.kd {B Bs : Nat} {W W1 : World} (h : Ov B Bs W W1) : Kd B Bs W W1 := ⟨h.b, h.bx⟩

theorem row_kept {k : IntKind} {W W' : World} {A : Option Addr} {xs : List Int} {row : Option Nat} (h : Row k W A xs) (hg : W.grownBy W' row) (hr : ∀ r, row = some r → ∃ o : Obj, W.heap[r]? = some o ∧ o.isCells = false) : Row k W' A xs := by
  intro j hj
  obtain ⟨a, e, hc⟩ := h j hj
  exact ⟨a, e, cell_kept hc hg hr⟩
theorem dg_kept {b : Nat} {W W' : World} {v : Value} {n : Nat} {row : Option Nat} (h : Dg b W v n) (hg : W.grownBy W' row) (hr : ∀ r, row = some r → ∃ o : Obj, W.heap[r]? = some o ∧ o.isCells = false) : Dg b W' v n := by
  obtain ⟨A, c, e, h1, h2, h3⟩ := h
  exact ⟨A, c, e, h1, h2, row_kept h3 hg hr⟩
theorem own_kept {W W' : World} {base : Nat} {e : TypeId} {size : Nat} {v : Value} {n : Nat} {xs : List Value} {row : Option Nat} (h : W.ownsRow base e size v n xs) (hg : W.grownBy W' row) (hr : ∀ r, row = some r → ∃ o : Obj, W.heap[r]? = some o ∧ o.isCells = false) : W'.ownsRow base e size v n xs := by
  refine h.kept hg ?_
  rcases h.2 with ⟨rfl, _⟩ | ⟨g, cap, cur, rfl, _, hh, _⟩
  · exact .inl rfl
  · refine .inr fun e' => ?_
    obtain ⟨o, ho, hc⟩ := hr g e'.symm
    rw [hh] at ho; cases ho; cases hc
theorem own_below {w w' : World} {base : Nat} {e : TypeId} {size : Nat} {v : Value} {n : Nat} {xs : List Value} (h : w.ownsRow base e size v n xs) (hb : Below w.heap.size w w') : w'.ownsRow base e size v n xs := by
  rcases h.2 with ⟨rfl, h0⟩ | ⟨g, cap, cur, rfl, h1, hh, h2⟩
  · exact ⟨h.1, .inl ⟨rfl, h0⟩⟩
  · exact ⟨h.1, .inr ⟨g, cap, cur, rfl, h1, (hb.block g (Array.getElem?_eq_some_iff.1 hh).1).trans hh, h2⟩⟩

theorem len_shift {n t : Nat} (h : t < 1000000000 * n) : (dg 1000000000 t).length ≤ (dg 1000000000 n).length + 1 := by
  refine (dg_length_le (by decide) _ _).2 ?_
  have := (dg_length_le (b := 1000000000) (by decide) n (dg 1000000000 n).length).1 (Nat.le_refl _)
  rw [Nat.pow_succ]
  have := Nat.mul_lt_mul_of_pos_left this (show 0 < 1000000000 by decide)
  rw [Nat.mul_comm] at this
  omega

theorem run_append_none {P : Program} {w : World} (base : Nat) (t ty e : TypeId) (i : TypeInfo) (size : Nat) (ht : P.underlying t = some (.slice e)) (hi : P.info? e = some i)
    (v : Value) (n c : Nat) (xs : List Value) (hown : w.ownsRow base e size v n xs) :
    (Builtin.append_ #[t, t] ty #[v, .slice none 0 c]).run P w = .ok v w := by
  rcases hown.2 with ⟨rfl, rfl⟩ | ⟨g, cap, cur, rfl, _, _, hnc, _⟩
  · simp [Builtin.append_, run_underlying ht, sizeOf, typeInfo, hi, Builtin.lenOf, Builtin.firstCells]
  · simp [Builtin.append_, run_underlying ht, sizeOf, typeInfo, hi, Builtin.lenOf, Builtin.firstCells, hnc, storeCells]

/-- append of a row, nil or not, to a row of the call's own. -/
theorem append_rowIn {F : Fence} {rm : Nat} (w : World) {ops : Array Oper} {rest : List Oper} {o : Oper} {a : Act} {Q : Exit → Act → World → Prop}
    (hg : o.guard = none) (s x : Operand) (hop : o.op = Op.call { callee := Callee.builtin Builtin.append, args := #[s, x], argTypes := #[70, 70] })
    (base : Nat) (v : Value) (k : Nat) (ys : List Int) (hs : a.eval s = v) (hown : w.ownsRow base 3 1 v k (ys.map (Value.int .i64))) (A : Option Addr) (c : Nat) (xs : List Int) (hx : a.eval x = .slice A xs.length c) (hr : Row .i64 w A xs)
    (b1 : k + xs.length ≤ 10000000) (b3 : base ≤ w.heap.size)
    (hK : ∀ v' w', w'.ownsRow base 3 1 v' (k + xs.length) ((ys ++ xs).map (Value.int .i64)) → w.grownBy w' v.ownBlock → wpListIn F rm Tryz.prog ops Q rest (a.put o.dst v') w') :
    wpListIn F rm Tryz.prog ops Q (o :: rest) a w := by
  obtain ⟨i0, hi, hz0, hz1, hz2⟩ := info_parts info_int
  cases A with
  | none =>
    have hx0 : xs = [] := by
      cases xs with
      | nil => rfl
      | cons x xs => obtain ⟨a, e, _⟩ := hr 0 (by simp); cases e
    subst hx0
    refine wpListIn_plain hg fun K hK' => ?_
    have hrun := run_append_none (P := Tryz.prog) (w := w) base 70 o.type 3 i0 1 Tryz.underlying70 hi v k c _ hown
    unfold Oper.wpIn
    refine ⟨?_, ?_⟩
    · simp [Oper.about, hop, resolve, Target.leads, Sem.run_pure]
    · rw [Oper.semAt_plain F _ _ (by rw [hop]; intro c hc'; cases hc')]
      simp only [List.length_nil] at hx
      simp [execOp, hop, resolve, invoke, builtin, hs, hx, hrun, Result.andThen]
      refine hK' _ _ (hK v w (by simpa using hown) ⟨rfl, rfl, rfl, Nat.le_refl _, fun _ _ _ => rfl⟩)
  | some ad =>
    refine wpListIn_append_own w hg s x 70 hop base 3 i0 (.int .i64 0) 1 8 Tryz.underlying70 hi hz0 hz1 hz2 rfl (by decide) v k _ hs hown ad xs.length c (xs.map (Value.int .i64)) hx (by simp) ?_ ?_ (by unfold maxLen; omega) (by omega) b3 ?_
    · intro j u hj
      have hjn : j < xs.length := by
        have := (List.getElem?_eq_some_iff.1 hj).1
        simpa using this
      obtain ⟨a', e, hc⟩ := hr j hjn
      cases e
      rw [hc]
      rw [List.getElem?_map, List.getElem?_eq_getElem hjn] at hj
      rw [List.getElem?_eq_getElem hjn]
      exact hj
    · intro u hu; obtain ⟨x, _, rfl⟩ := List.mem_map.1 hu; rfl
    · intro v' w' h1 h2 _
      exact hK v' w' (by simpa using h1) h2

theorem Dg.zero {b : Nat} (hb : 2 ≤ b) (W : World) : Dg b W (.slice none 0 0) 0 := by
  unfold Dg
  rw [dg_zero]
  exact ⟨none, 0, rfl, Nat.le_refl _, Nat.zero_le _, Row.nil⟩

/-- What over returns. -/
def OverP (m n : Nat) (w : World) (e : Ending) (w' : World) : Prop :=
  ∃ u v, e = .returned (.tuple #[u, v]) ∧ Dg 1000000000 w' u (m / n) ∧ Dg 1000000000 w' v (m % n) ∧ FromB w.heap.size u ∧ FromB w.heap.size v ∧ Below w.heap.size w w'

set_option maxRecDepth 100000 in
set_option maxHeartbeats 4000000 in
theorem over_in (v1 v2 : Value) (m n : Nat) (w : World) (h1 : Dg 1000000000 w v1 m) (h2 : Dg 1000000000 w v2 n) (hn : 0 < n) (hml : (dg 1000000000 m).length ≤ 1000000) (hnl : (dg 1000000000 n).length ≤ 999999) :
    CallsIn Fence.wide 6 Tryz.prog 75 #[v1, v2] w (OverP m n w) := by
  obtain ⟨A1, c1, rfl, hc1, hm1, hr1⟩ := h1
  have H2 := Lib.hid h2
  obtain ⟨A2, c2, rfl, hc2, hm2, hr2⟩ := h2
  have HR1 := Lib.hid hr1
  have I1 := Lib.hid (dg_inR (b := 1000000000) (by decide) m)
  have V1 := Lib.hid (val_dg (b := 1000000000) (by decide) m)
  have hAb : ∀ a, A1 = some a → (dg 1000000000 m).length = 0 ∨ a.block < w.heap.size := fun a ha => by
    rcases Nat.eq_zero_or_pos (dg 1000000000 m).length with h | h
    · exact .inl h
    · obtain ⟨a', e', hc'⟩ := hr1 0 h
      rw [ha] at e'; cases e'
      exact .inr (by have := World.block_lt_of_cell? w _ hc'; rwa [add_block] at this)
  have HAB := Lib.hid hAb
  have HN := Lib.hid hn
  have HNL := Lib.hid hnl
  clear hr1 hr2 hAb hn hnl
  generalize dg 1000000000 m = p at *
  have hmk := make_int p.length (↑p.length) (by simp) (by omega)
  refine callsIn_of_wp_marks Tryz.func75 rfl trivial ?_ rfl
  simp only [Tryz.ntmps75, List.size_toArray, List.length_cons, List.length_nil, Nat.reduceAdd, Nat.reduceSub, Array.replicate_succ, Array.replicate_zero, List.push_toArray, List.append_toArray, List.nil_append, List.cons_append]
  gi_wp2_with (refine ⟨trivial, ?_⟩; gi_at_call 118; refine (down_in Fence.wide (6 - 1) trivial rfl _ _ _ _).mono ?_; rintro e w' ⟨rfl, rfl⟩)
  clear hmk
  have hown0 : (((((w.alloc (.cells #[.slice A2 (dg 1000000000 n).length c2] 70)).alloc (.cells #[.slice (some ⟨w.heap.size + 1 + 1 + 1, 0, none⟩) p.length p.length] 70)).alloc (.cells #[.slice none 0 0] 70)).alloc (.cells (madeCells #[.int .i64 0] p.length) 3)).alloc (.cells #[.slice A1 p.length c1] 70)).ownsRow (w.heap.size + 1 + 1 + 1) 3 1 (.slice (some ⟨w.heap.size + 1 + 1 + 1, 0, none⟩) p.length p.length) p.length ((List.replicate p.length (0 : Int)).map (Value.int .i64)) := by
    have h := own_zeros (((w.alloc (.cells #[.slice A2 (dg 1000000000 n).length c2] 70)).alloc (.cells #[.slice (some ⟨w.heap.size + 1 + 1 + 1, 0, none⟩) p.length p.length] 70)).alloc (.cells #[.slice none 0 0] 70)) p.length (by omega)
    exact World.ownsRow.alloc (by simpa using h) _
  obtain ⟨W, hW, k0, k1, k2, k3, k4, f0, f1, f2, f3, f4, hbel, hsz⟩ := boxes5 w #[.slice A2 (dg 1000000000 n).length c2] #[.slice (some ⟨w.heap.size + 1 + 1 + 1, 0, none⟩) p.length p.length] #[.slice none 0 0] (madeCells #[.int .i64 0] p.length) #[.slice A1 p.length c1] 70 70 70 3 70
  rw [hW] at hown0 ⊢
  have c0 : W.cell? ⟨w.heap.size, 0, none⟩ = some (.slice A2 (dg 1000000000 n).length c2) := k0 0
  have c1_ : W.cell? ⟨w.heap.size + 1, 0, none⟩ = some (.slice (some ⟨w.heap.size + 1 + 1 + 1, 0, none⟩) p.length p.length) := k1 0
  have c2_ : W.cell? ⟨w.heap.size + 1 + 1, 0, none⟩ = some (.slice none 0 0) := k2 0
  have c4_ : W.cell? ⟨w.heap.size + 1 + 1 + 1 + 1, 0, none⟩ = some (.slice A1 p.length c1) := k4 0
  have f1_ : W.frozen? ⟨w.heap.size + 1, 0, none⟩ = false := f1 0
  have f2_ : W.frozen? ⟨w.heap.size + 1 + 1, 0, none⟩ = false := f2 0
  clear k0 k1 k2 k3 k4 f0 f1 f2 f3 f4
  refine wpIn_rangeFunc_ownF rfl (by decide) (gf := 133) (lb := #[.pointer (some ⟨w.heap.size + 1 + 1 + 1 + 1, 0, none⟩)]) rfl trivial (enters_of Tryz.func133 (by kernel_rfl) rfl)
    (down_stops Fence.wide (6 - 1) trivial rfl (by decide) (w.heap.size + 1 + 1 + 1 + 1) w.heap.size A1 c1 p (by omega) W (by rw [hsz]; omega) (fun a ha => ?hA) (by rw [hsz]; omega) c4_ (HR1.out.below hbel.to)) Kd.t (Kd.b (by rw [hsz]; omega) (by rw [hsz]; omega)) (Below.refl _ _) (fun _ => rfl)
    (fun pre V => (V.cell? ⟨w.heap.size, 0, none⟩ = some (.slice A2 (dg 1000000000 n).length c2) ∧ V.cell? ⟨w.heap.size + 1, 0, none⟩ = some (.slice (some ⟨w.heap.size + 1 + 1 + 1, 0, none⟩) p.length p.length) ∧ V.frozen? ⟨w.heap.size + 1, 0, none⟩ = false ∧ V.frozen? ⟨w.heap.size + 1 + 1, 0, none⟩ = false
        ∧ V.ownsRow (w.heap.size + 1 + 1 + 1) 3 1 (.slice (some ⟨w.heap.size + 1 + 1 + 1, 0, none⟩) p.length p.length) p.length ((ost n p pre).2.map (Value.int .i64)) ∧ ∃ v, V.cell? ⟨w.heap.size + 1 + 1, 0, none⟩ = some v ∧ Dg 1000000000 V v (ost n p pre).1 ∧ FromB (w.heap.size + 5) v) ∧ (w.heap.size + 5 ≤ V.heap.size ∧ Below w.heap.size w V))
    (fun c pre V => False)
    (OwnFrom.and (Own.from (fun s X Y row hs hg hr => by
      obtain ⟨a1, a2, a3, a4, a5, v, a6, a7, a8⟩ := hs
      exact ⟨cell_kept a1 hg hr, cell_kept a2 hg hr, (frozen_kept a2 hg hr).trans a3, (frozen_kept a6 hg hr).trans a4, own_kept a5 hg hr, v, cell_kept a6 hg hr, dg_kept a7 hg hr, a8⟩) _) (OwnFrom.and (fun s X Y row hs hg hr => Nat.le_trans hs hg.size) (ownFrom_below (Nat.le_refl _) (by rw [hsz]; omega))))
    (fun c s X Y row hs _ _ => hs)
    ⟨⟨c0, c1_, f1_, f2_, hown0, _, c2_, Dg.zero (by decide) W, fun k hk => by cases hk⟩, by rw [hsz]; omega, hbel.to⟩
    (fun x => { tmps := (.slice A1 p.length c1 :: .slice A2 (dg 1000000000 n).length c2 :: undef :: .pointer (some ⟨w.heap.size, 0, none⟩) :: .pointer (some ⟨w.heap.size + 1, 0, none⟩) :: .pointer (some ⟨w.heap.size + 1 + 1, 0, none⟩) :: .int .i64 ((x.1 : Nat) : Int) :: .int .i64 (p[x.1]?.getD 0) :: undef :: undef :: undef :: .slice A1 p.length c1 :: .int .i64 p.length :: .slice (some ⟨w.heap.size + 1 + 1 + 1, 0, none⟩) p.length p.length :: .slice A1 p.length c1 :: .func (.func 133) #[] #[.pointer (some ⟨w.heap.size + 1 + 1 + 1 + 1, 0, none⟩)] :: .int .i64 ((x.1 : Nat) : Int) :: .int .i64 (p[x.1]?.getD 0) :: undef :: undef :: undef :: undef :: undef :: undef :: undef :: undef :: undef :: undef :: undef :: undef :: undef :: undef :: undef :: undef :: undef :: undef :: undef :: undef :: undef :: undef :: undef :: undef :: undef :: undef :: undef :: undef :: undef :: undef :: undef :: undef :: undef :: undef :: []).toArray, defers := [] }) ?assign ?body ?done ?stop
  case hA => exact HAB.out a ha
  case assign =>
    intro l x W K hK
    gi_wp2
    exact hK
  case stop => rintro _ _ _ _ _ _ h; exact h.elim
  case body =>
    rintro l pre x V ⟨⟨a1, a2, a3, a4, a5, v, a6, a7, a8⟩, a9, hB⟩ hpl
    obtain ⟨xi, hxi⟩ := x
    dsimp only at *
    have hr : (ost n p pre).1 < n := ost_lt HN.out pre
    obtain ⟨b0, b1⟩ := I1.out.at_ (by decide) xi
    rw [List.getD_eq_getElem?_getD] at b0 b1
    have ESN := Lib.hid (ost_snoc n p pre ⟨xi, hxi⟩)
    have IO := Lib.hid (ost_inR HN.out I1.out pre)
    dsimp only at ESN
    obtain ⟨d, hd⟩ := Int.eq_ofNat_of_zero_le b0
    rw [hd] at b1 ESN ⊢
    have hdt : d < 1000000000 := by omega
    obtain ⟨r, hr0⟩ : ∃ r, (ost n p pre).1 = r := ⟨_, rfl⟩
    obtain ⟨ql, hql⟩ : ∃ ql, (ost n p pre).2 = ql := ⟨_, rfl⟩
    rw [hr0] at hr ESN a7
    rw [hql] at ESN IO a5
    have HLQ := Lib.hid (show ql.length = p.length by rw [← hql]; exact ost_len n p pre)
    have hdn : 1000000000 * (r + 1) ≤ 1000000000 * n := Nat.mul_le_mul_left _ hr
    obtain ⟨t, ht⟩ : ∃ t, d + 1000000000 * r = t := ⟨_, rfl⟩
    have ht2 : t < 1000000000 * n := by omega
    have htl : (dg 1000000000 t).length ≤ 1000000 := Nat.le_trans (len_shift ht2) (Nat.succ_le_succ HNL.out)
    have hrl : (dg 1000000000 r).length ≤ 999999 := Nat.le_trans (dg_length_mono (by decide) (Nat.le_of_lt hr)) HNL.out
    have htv : val 1000000000 ((d : Int) :: dg 1000000000 r) = (t : Int) := by rw [val_cons, val_dg (by decide), ← ht]; simp
    have htr : InR 1000000000 ((d : Int) :: dg 1000000000 r) := (dg_inR (by decide) r).cons (by omega) b1
    have HT := Lib.hid htv
    have HTR := Lib.hid htr
    have HTE := Lib.hid ht
    have HD := Lib.hid hd
    have HRN := Lib.hid hr
    have HT2 := Lib.hid ht2
    have HXI := Lib.hid hxi
    clear hr0 hql hd hdn htv htr b0 hr b1 hdt hpl ht ht2
    obtain ⟨A', c', rfl, hc1', hm1', hr1'⟩ := a7
    have HR' := Lib.hid hr1'
    clear hr1'
    have HA5 := Lib.hid a5
    have HBB := Lib.hid hB
    clear a5 hB
    have a6' : (V.alloc (.cells #[.int .i64 (d : Int)] 3)).cell? ⟨w.heap.size + 1 + 1, 0, none⟩ = some (.slice A' (dg 1000000000 r).length c') := keep_cell ((Below.refl _ V).alloc (Nat.le_refl _) _) a6
    clear hW hown0 c0 c1_ c2_ c4_ f1_ f2_
    have XX := Lib.hid (World.ownsRow_lit (e := 3) (base := V.heap.size) (size := 1) V #[.int .i64 (d : Int)] 1 (Nat.le_refl _) (by unfold maxLen; omega) (by simp))
    have YY := Lib.hid (HR'.out.alloc (.cells #[.int .i64 (d : Int)] 3))
    gi_wp2_with (first
      | (gi_at_builtin; refine append_rowIn _ rfl _ _ rfl V.heap.size (.slice (some ⟨V.heap.size, 0, none⟩) 1 1) 1 [(d : Int)] rfl XX.out A' c' (dg 1000000000 r) rfl YY.out (by omega) (by simp) ?_; intro v' w1 hown1 hgrow1; obtain ⟨A3, c3, rfl, hl3, hm3, hr3, hn3⟩ := own_row hown1; have hb1 : Below V.heap.size V w1 := ((Below.refl _ V).alloc (Nat.le_refl _) _).grown hgrow1 (by simp) (by intro k hk; simp [Value.ownBlock] at hk; omega); have hb1o := own_below HA5.out hb1; have ck0 := keep_cell hb1 a1; have ck1 := keep_cell hb1 a2; have ck2 := keep_cell hb1 a6; have fk1 := keep_free' hb1 a2 a3; have fk2 := keep_free' hb1 a6 a4; have hfr3 := own_from hown1; have HR3 := Lib.hid hr3; have HB1 := Lib.hid hb1; have HOW1 := Lib.hid hb1o; have HFR3 := Lib.hid hfr3; clear hr3 hb1 hb1o hfr3 hgrow1 hown1 hn3)
      | (refine ⟨trivial, ?_⟩; gi_at_call 89; refine (CallsIn.inRound l (callsIn_wide.2 (cut_c A3 c3 ((d : Int) :: dg 1000000000 r) _ HR3.out hl3 (by unfold maxLen at hm3; omega)))).mono ?_; intro e w' hcut; obtain ⟨rfl, v3, rfl, hdg, hblk⟩ := cut_dg (b := 1000000000) (by decide) HR3.out hl3 (by unfold maxLen at hm3; omega) HTR.out HT.out hcut; have HDG := Lib.hid hdg; obtain ⟨A4, c4, rfl, hl4, hm4, hr4⟩ := hdg; have HFB := Lib.hid (show FromB V.heap.size (.slice A4 (dg 1000000000 t).length c4) from fun g hg => by obtain ⟨a, rfl, rfl⟩ := hblk g hg; exact HFR3.out _ rfl); clear hr4 hblk hcut hl3 hm3)
      | fail)
    obtain ⟨V2, hV2⟩ : ∃ V2, w1.setCell ⟨w.heap.size + 1 + 1, 0, none⟩ (.slice A4 (dg 1000000000 t).length c4) = V2 := ⟨_, rfl⟩
    rw [hV2]
    have hVw1 := HB1.out.size
    have q0 : V2.cell? ⟨w.heap.size, 0, none⟩ = some (.slice A2 (dg 1000000000 n).length c2) := by subst hV2; exact set_far _ (by first | (simp; done) | (simp; omega)) ck0
    have q1 : V2.cell? ⟨w.heap.size + 1, 0, none⟩ = some (.slice (some ⟨w.heap.size + 1 + 1 + 1, 0, none⟩) p.length p.length) := by subst hV2; exact set_far _ (by simp) ck1
    have q2 : V2.cell? ⟨w.heap.size + 1 + 1, 0, none⟩ = some (.slice A4 (dg 1000000000 t).length c4) := by subst hV2; exact set_same _ ck2
    have g1 : V2.frozen? ⟨w.heap.size + 1, 0, none⟩ = false := by subst hV2; simpa using fk1
    have g2 : V2.frozen? ⟨w.heap.size + 1 + 1, 0, none⟩ = false := by subst hV2; simpa using fk2
    have HOW2 : Hid (V2.ownsRow (w.heap.size + 1 + 1 + 1) 3 1 (.slice (some ⟨w.heap.size + 1 + 1 + 1, 0, none⟩) p.length p.length) p.length (ql.map (Value.int .i64))) := by subst hV2; exact own_setCell_other HOW1.out _ _ (by simp [Value.ownBlock])
    have HFB5 : Hid (FromB (w.heap.size + 5) (.slice A4 (dg 1000000000 t).length c4)) := HFB.out.mono a9
    have HDG2 : Hid (Dg 1000000000 V2 (.slice A4 (dg 1000000000 t).length c4) t) := by subst hV2; exact HDG.out.set HFB5.out (by simp) _
    have HOV : Hid (Ov w.heap.size (w.heap.size + 1 + 1 + 1 + 1) V V2) := by subst hV2; exact ((Ov.refl (by omega) (by omega)).call HB1.out).set _ (by first | (simp; done) | (simp; omega)) (by first | (simp; done) | (simp; omega))
    have HV5 : w.heap.size + 5 ≤ V2.heap.size := Nat.le_trans a9 HOV.out.b.size
    have HQ2 : Hid (Dg 1000000000 V2 (.slice A2 (dg 1000000000 n).length c2) n) := H2.out.below (HBB.out.trans HOV.out.b)
    clear hV2 ck0 ck1 ck2 fk1 fk2 hVw1 a1 a2 a3 a4 a6 a6' XX YY
    have hT0 := HT2.out
    gi_loopg [8, 9] 999999999 (fun g lo hi wr => ∃ a b : Nat, lo = .int .i64 a ∧ hi = .int .i64 b ∧ a + g = b ∧ b ≤ 999999999 ∧ Hid (n * a ≤ t ∧ t < n * (b + 1)) ∧ Hid (Below V2.heap.size V2 wr))
    case atStart => exact ⟨0, 999999999, rfl, rfl, by omega, by omega, ⟨by omega, by rw [Nat.mul_comm]; simpa using hT0⟩, Below.refl _ _⟩
    case round =>
      clear hT0
      obtain ⟨a, b, rfl, rfl, hg, hb9, HAT, HBW⟩ := hrel
      by_cases hlt : a < b
      · obtain ⟨M, hM⟩ : ∃ M, (a + b + 1) / 2 = M := ⟨_, rfl⟩
        have hM1 : a < M := by omega
        have hM2 : M ≤ b := by omega
        have hMi : ((a : Int) + b + 1) / 2 = (M : Int) := by omega
        have HQ3 := Lib.hid (HQ2.out.below HBW.out).drew
        have HD3 := Lib.hid (HDG2.out.below HBW.out).drew
        have z0 : wr.drew.cell? ⟨w.heap.size, 0, none⟩ = some (.slice A2 (dg 1000000000 n).length c2) := keep_cell (Below.refl _ _).drew (keep_cell HBW.out q0)
        have z0b : wr.cell? ⟨w.heap.size, 0, none⟩ = some (.slice A2 (dg 1000000000 n).length c2) := keep_cell HBW.out q0
        have z2b : wr.cell? ⟨w.heap.size + 1 + 1, 0, none⟩ = some (.slice A4 (dg 1000000000 t).length c4) := keep_cell HBW.out q2
        have hnl6 := Lib.hid (Nat.le_trans HNL.out (show 999999 ≤ 1000000 by decide))
        have z2 := keep_cell (Below.refl _ _).drew z2b
        have HM9 := Lib.hid (show M < 1000000000 by omega)
        obtain ⟨s, hs0⟩ : ∃ s, sgn (((n * M : Nat) : Int) - (t : Nat)) = s := ⟨_, rfl⟩
        have HSG := Lib.hid hs0
        by_cases hle : n * M ≤ t
        · have hs : s ≤ 0 := by
            rw [← hs0]
            rcases Nat.eq_or_lt_of_le hle with h | h
            · rw [h, Int.sub_self]; decide
            · rw [sgn_lt (by omega)]; decide
          have HLE := Lib.hid hle
          have HG := Lib.hid hg
          clear hle hg hs0
          gi_wp2_with fail
          try rw [hMi]
          gi_region_with (first | (refine ⟨trivial, ?_⟩; gi_at_call 88; refine (CallsIn.inRound l (callsIn_wide.2 (small_c _ n M _ HQ3.out hnl6.out HM9.out))).mono ?_; rintro e w' ⟨u, rfl, hu, -, hbz⟩; have HU := Lib.hid hu; have HBZ := Lib.hid hbz; have z2c := keep_cell hbz z2; clear hu hbz) | (refine ⟨trivial, ?_⟩; gi_at_call 77; refine (CallsIn.inRound l (callsIn_wide.2 (compare_c _ _ (n * M) t _ HU.out (HD3.out.below HBZ.out)))).mono ?_; rintro e w' ⟨he, hbz⟩; rw [HSG.out] at he; subst he; have HBX := Lib.hid (below_then' (below_then' (Below.refl wr.heap.size wr).drew HBZ.out) hbz); clear hbz))
          all_goals
            gi_wp2
            gi_roundg (b - M)
            case measure => have := HG.out; omega
            case rel => exact ⟨M, b, rfl, rfl, by omega, hb9, ⟨HLE.out, HAT.out.2⟩, below_then' HBW.out HBX.out⟩
        · have hs : ¬ s ≤ 0 := by rw [← hs0, sgn_gt (by omega)]; decide
          have HLE := Lib.hid hle
          have HG := Lib.hid hg
          clear hle hg hs0
          gi_wp2_with fail
          try rw [hMi]
          gi_region_with (first | (refine ⟨trivial, ?_⟩; gi_at_call 88; refine (CallsIn.inRound l (callsIn_wide.2 (small_c _ n M _ HQ3.out hnl6.out HM9.out))).mono ?_; rintro e w' ⟨u, rfl, hu, -, hbz⟩; have HU := Lib.hid hu; have HBZ := Lib.hid hbz; have z2c := keep_cell hbz z2; clear hu hbz) | (refine ⟨trivial, ?_⟩; gi_at_call 77; refine (CallsIn.inRound l (callsIn_wide.2 (compare_c _ _ (n * M) t _ HU.out (HD3.out.below HBZ.out)))).mono ?_; rintro e w' ⟨he, hbz⟩; rw [HSG.out] at he; subst he; have HBX := Lib.hid (below_then' (below_then' (Below.refl wr.heap.size wr).drew HBZ.out) hbz); clear hbz))
          all_goals
            gi_wp2
            gi_roundg (M - 1 - a)
            case measure => have := HG.out; omega
            case rel =>
              obtain ⟨M', rfl⟩ : ∃ M', M = M' + 1 := ⟨M - 1, by omega⟩
              exact ⟨a, M', rfl, by simp, by omega, by omega, ⟨HAT.out.1, by have := HLE.out; omega⟩, below_then' HBW.out HBX.out⟩
      · obtain rfl : a = b := by omega
        obtain ⟨hA1, hA2⟩ := HAT.out
        have eqa : t / n = a := Nat.div_eq_of_lt_le (by rw [Nat.mul_comm]; exact hA1) (by rw [Nat.mul_comm]; exact hA2)
        have eqm : t - n * a = t % n := by rw [← eqa]; exact (Nat.mod_eq_sub_mul_div).symm
        have HEA := Lib.hid eqa
        have HEM := Lib.hid eqm
        have HA1 := Lib.hid hA1
        have HA9 := Lib.hid (show a < 1000000000 by omega)
        have hOW3 := own_below HOW2.out HBW.out
        have hcz := own_cell hOW3 xi hxi HLQ.out
        have hfz : wr.frozen? ⟨w.heap.size + 1 + 1 + 1, xi, none⟩ = false := hOW3.frozenAt xi
        have y0 := keep_cell HBW.out q0
        have y1 := keep_cell HBW.out q1
        have y2 := keep_cell HBW.out q2
        have j1 := keep_free' HBW.out q1 g1
        have j2 := keep_free' HBW.out q2 g2
        have HOW3 := Lib.hid hOW3
        clear hlt hg hA1 hA2 eqa eqm hOW3 q0 q1 q2 g1 g2
        gi_wp2_with fail
        obtain ⟨V3, hV3⟩ : ∃ V3, wr.setCell ⟨w.heap.size + 1 + 1 + 1, xi, none⟩ (.int .i64 (a : Int)) = V3 := ⟨_, rfl⟩
        rw [hV3]
        have x0 : V3.cell? ⟨w.heap.size, 0, none⟩ = some (.slice A2 (dg 1000000000 n).length c2) := by subst hV3; exact set_far _ (by first | (simp; done) | (simp; omega)) y0
        have x1 : V3.cell? ⟨w.heap.size + 1, 0, none⟩ = some (.slice (some ⟨w.heap.size + 1 + 1 + 1, 0, none⟩) p.length p.length) := by subst hV3; exact set_far _ (by first | (simp; done) | (simp; omega)) y1
        have x2 : V3.cell? ⟨w.heap.size + 1 + 1, 0, none⟩ = some (.slice A4 (dg 1000000000 t).length c4) := by subst hV3; exact set_far _ (by first | (simp; done) | (simp; omega)) y2
        have l1 : V3.frozen? ⟨w.heap.size + 1, 0, none⟩ = false := by subst hV3; simpa using j1
        have l2 : V3.frozen? ⟨w.heap.size + 1 + 1, 0, none⟩ = false := by subst hV3; simpa using j2
        have HOW4 : Hid (V3.ownsRow (w.heap.size + 1 + 1 + 1) 3 1 (.slice (some ⟨w.heap.size + 1 + 1 + 1, 0, none⟩) p.length p.length) p.length ((ql.set xi (a : Int)).map (Value.int .i64))) := by subst hV3; exact store_own HOW3.out _ _
        have HD4 : Hid (Dg 1000000000 V3.drew (.slice A4 (dg 1000000000 t).length c4) t) := by subst hV3; exact ((HDG2.out.below HBW.out).set HFB5.out (by simp) _).drew
        have HOV3 : Hid (Ov w.heap.size (w.heap.size + 1 + 1 + 1 + 1) V V3) := by subst hV3; exact (HOV.out.call HBW.out).set _ (by first | (simp; done) | (simp; omega)) (by first | (simp; done) | (simp; omega))
        have HQ4 : Hid (Dg 1000000000 V3.drew (.slice A2 (dg 1000000000 n).length c2) n) := (Dg.below H2.out (HBB.out.trans HOV3.out.b)).drew
        have hnl6 := Lib.hid (Nat.le_trans HNL.out (show 999999 ≤ 1000000 by decide))
        have HV53 : Hid (w.heap.size + 5 ≤ V3.heap.size) := Nat.le_trans a9 HOV3.out.b.size
        have HTL := Lib.hid htl
        have x0d := keep_cell (Below.refl _ _).drew x0
        have x2d := keep_cell (Below.refl _ _).drew x2
        have l2d := keep_free' (Below.refl _ _).drew x2 l2
        clear hV3 hcz hfz y0 y1 y2 j1 j2
        gi_region_with (first | (refine ⟨trivial, ?_⟩; gi_at_call 88; refine (CallsIn.inRound l (callsIn_wide.2 (small_c _ n a _ HQ4.out hnl6.out HA9.out))).mono ?_; rintro e w' ⟨u, rfl, hu, -, hbz⟩; have HU := Lib.hid hu; have HBZ := Lib.hid hbz; have z2c := keep_cell hbz x2d; have l2c := keep_free' hbz x2d l2d; clear hu hbz) | (refine ⟨trivial, ?_⟩; gi_at_call 119; refine (CallsIn.inRound l (callsIn_wide.2 (minus_c _ _ t (n * a) _ (HD4.out.below HBZ.out) HU.out HTL.out HA1.out))).mono ?_; rintro e w' ⟨u2, rfl, hu2, hf2, hbz⟩; have z2e := keep_cell hbz z2c; have l2e := keep_free' hbz z2c l2c; have HU2 := Lib.hid hu2; obtain ⟨A5, c5, rfl, hl5, hm5, hr5⟩ := hu2; have HF2 := Lib.hid hf2; have HBX := Lib.hid hbz; clear hbz hf2 hr5))
        all_goals
          gi_wp2
          have HBY := Lib.hid (below_then' (below_then' (Below.refl V3.heap.size V3).drew HBZ.out) HBX.out)
          have HOVF := HOV3.out.call HBY.out
          have HOVG := HOVF.set (a := ⟨w.heap.size + 1 + 1, 0, none⟩) (.slice A5 (dg 1000000000 (t - n * a)).length c5) (by first | (simp; done) | (simp; omega)) (by first | (simp; done) | (simp; omega))
          have hfb : FromB (w.heap.size + 5) (.slice A5 (dg 1000000000 (t - n * a)).length c5) := HF2.out.mono (Nat.le_trans HV53.out HBZ.out.size)
          have e1 : (ost n p (pre ++ [⟨xi, hxi⟩])).1 = t - n * a := by rw [ESN.out, HEM.out, Int.toNat_natCast, HTE.out]
          have e2 : (ost n p (pre ++ [⟨xi, hxi⟩])).2 = ql.set xi (a : Int) := by rw [ESN.out, Int.toNat_natCast, HTE.out, HEA.out]
          refine ⟨HOVG.ko, HOVG.kd, ⟨set_far _ (by first | (simp; done) | (simp; omega)) (keep_cell HBY.out x0), set_far _ (by first | (simp; done) | (simp; omega)) (keep_cell HBY.out x1), ?_, ?_, ?_, _, set_same _ (keep_cell HBY.out x2), ?_, hfb⟩, ?_, HBB.out.trans HOVG.b⟩
          · simpa using keep_free' HBY.out x1 l1
          · simpa using keep_free' HBY.out x2 l2
          · rw [e2]; exact own_setCell_other (own_below HOW4.out HBY.out) _ _ (by simp [Value.ownBlock])
          · rw [e1]; exact HU2.out.set hfb (by simp) _
          · simpa using Nat.le_trans HV53.out HBY.out.size
  case done =>
    rintro D ys V hD rfl ⟨⟨a1, a2, a3, a4, a5, v, a6, a7, a8⟩, a9, hB⟩ hK
    obtain ⟨vv, e1, e2, e3⟩ := ost_dn HN.out I1.out p.length (Nat.le_refl _)
    rw [Nat.sub_self, List.drop_zero] at e1 e3
    rw [V1.out] at e1
    obtain rfl : m = vv := by exact_mod_cast e1
    have hlq := ost_len n p (dn p.length p.length)
    have hiq := ost_inR HN.out I1.out (dn p.length p.length)
    generalize (ost n p (dn p.length p.length)).2 = ql at *
    rw [e2] at a7
    have HIQ := Lib.hid hiq
    have HVQ := Lib.hid e3
    have HRQ : Hid (Row .i64 V.drew (some ⟨w.heap.size + 1 + 1 + 1, 0, none⟩) ql) := by
      obtain ⟨A', c', hve, _, _, hrow, _⟩ := own_row a5
      obtain ⟨rfl, _, rfl⟩ := Value.slice.inj hve
      exact hrow.drew
    have HLQ := Lib.hid hlq
    have HD5 := Lib.hid a7
    have HF5 := Lib.hid a8
    have HBB := Lib.hid hB
    have HK := Lib.hid hK
    obtain ⟨A', c', rfl, hc1', hm1', hr1'⟩ := a7
    have z1 := keep_cell (Below.refl _ _).drew a2
    have z2 := keep_cell (Below.refl _ _).drew a6
    have zf1 := keep_free' (Below.refl _ _).drew a2 a3
    have zf2 := keep_free' (Below.refl _ _).drew a6 a4
    have hpl : p.length ≤ 9223372036854775807 := by omega
    clear hW hown0 c0 c1_ c2_ c4_ f1_ f2_ a5 hr1' hiq e1 e2 e3 hlq hB hK a1
    gi_wp2_with fail
    gi_region_with (first | (refine ⟨trivial, ?_⟩; gi_at_call 89; rw [show (Value.slice (some ⟨w.heap.size + 1 + 1 + 1, 0, none⟩) p.length p.length) = Value.slice (some ⟨w.heap.size + 1 + 1 + 1, 0, none⟩) ql.length p.length from by rw [HLQ.out]]; refine (callsIn_wide.2 (cut_c (some ⟨w.heap.size + 1 + 1 + 1, 0, none⟩) p.length ql _ HRQ.out (by rw [HLQ.out]; exact Nat.le_refl _) hpl)).mono ?_; intro e w' hcut; obtain ⟨rfl, v6, rfl, hdg, hblk⟩ := cut_dg (b := 1000000000) (by decide) HRQ.out (by rw [HLQ.out]; exact Nat.le_refl _) hpl HIQ.out HVQ.out hcut; have HDQ := Lib.hid hdg; obtain ⟨A6, c6, rfl, hl6, hm6, hr6⟩ := hdg; have HFQ := Lib.hid (show FromB (w.heap.size + 1 + 1 + 1) (.slice A6 (dg 1000000000 (m / n)).length c6) from fun g hg => by obtain ⟨a, e, rfl⟩ := hblk g hg; cases e; exact Nat.le_refl _); clear hr6 hblk hcut))
    all_goals
      gi_wp2
      obtain ⟨U, hU⟩ : ∃ U, ((V.setCell ⟨w.heap.size + 1, 0, none⟩ (.slice A6 (dg 1000000000 (m / n)).length c6)).setCell ⟨w.heap.size + 1 + 1, 0, none⟩ (.slice A' (dg 1000000000 (m % n)).length c')).drew = U := ⟨_, rfl⟩
      have hK' : U.heap[D]? = some (.deferred (some [])) := by subst hU; exact (((KeepsOthers.setCell V ⟨w.heap.size + 1, 0, none⟩ (.slice A6 (dg 1000000000 (m / n)).length c6)).trans (KeepsOthers.setCell _ ⟨w.heap.size + 1 + 1, 0, none⟩ (.slice A' (dg 1000000000 (m % n)).length c'))).trans (KeepsOthers.drew _)).same D _ HK.out rfl
      have hkr : ∀ r, some D = some r → ∃ o : Obj, U.heap[r]? = some o ∧ o.isCells = false := fun r e => by cases e; exact ⟨_, hK', rfl⟩
      have t1 : U.cell? ⟨w.heap.size + 1, 0, none⟩ = some (.slice A6 (dg 1000000000 (m / n)).length c6) := by subst hU; exact set_far (a := ⟨w.heap.size + 1 + 1, 0, none⟩) _ (by first | (simp; done) | (simp; omega)) (set_same _ a2)
      have t2 : U.cell? ⟨w.heap.size + 1 + 1, 0, none⟩ = some (.slice A' (dg 1000000000 (m % n)).length c') := by subst hU; exact set_same _ (set_far (a := ⟨w.heap.size + 1, 0, none⟩) _ (by first | (simp; done) | (simp; omega)) a6)
      have r1 : Dg 1000000000 U (.slice A6 (dg 1000000000 (m / n)).length c6) (m / n) := by subst hU; exact (Dg.set (k := w.heap.size + 1 + 1 + 1) (Dg.set (k := w.heap.size + 1 + 1 + 1) HDQ.out HFQ.out (a := ⟨w.heap.size + 1, 0, none⟩) (by first | (simp; done) | (simp; omega)) _) HFQ.out (a := ⟨w.heap.size + 1 + 1, 0, none⟩) (by first | (simp; done) | (simp; omega)) _)
      have r2 : Dg 1000000000 U (.slice A' (dg 1000000000 (m % n)).length c') (m % n) := by subst hU; exact ((Dg.set (Dg.set HD5.out HF5.out (a := ⟨w.heap.size + 1, 0, none⟩) (by first | (simp; done) | (simp; omega)) _) HF5.out (a := ⟨w.heap.size + 1 + 1, 0, none⟩) (by first | (simp; done) | (simp; omega)) _)).drew
      have hBU : Below w.heap.size w U := by subst hU; exact ((HBB.out.setCell (p := ⟨w.heap.size + 1, 0, none⟩) (by first | (simp; done) | (simp; omega)) _).setCell (p := ⟨w.heap.size + 1 + 1, 0, none⟩) (by first | (simp; done) | (simp; omega)) _).drew
      rw [hU]
      clear hU
      have u1 := cell_kept t1 (grownBy_putObj' _ D (.deferred none)) hkr
      have u2 := cell_kept t2 (grownBy_putObj' _ D (.deferred none)) hkr
      refine ⟨by simp, .inl ⟨_, _, rfl, run_takeDeferred hK', ?_⟩⟩
      refine ⟨.tuple #[.slice A6 (dg 1000000000 (m / n)).length c6, .slice A' (dg 1000000000 (m % n)).length c'], ?_, _, _, rfl, dg_kept r1 (grownBy_putObj' _ D (.deferred none)) hkr, dg_kept r2 (grownBy_putObj' _ D (.deferred none)) hkr, HFQ.out.mono (by omega), HF5.out.mono (by omega), hBU.trans (belowK_b (w := w) (Nat.le_refl _) _ D _ _ (by omega) hK' rfl rfl)⟩
      simp [results, Tryz.f75, go_sem, u1, u2]

theorem over_c (v1 v2 : Value) (m n : Nat) (w : World) (h1 : Dg 1000000000 w v1 m) (h2 : Dg 1000000000 w v2 n) (hn : 0 < n) (hml : (dg 1000000000 m).length ≤ 1000000) (hnl : (dg 1000000000 n).length ≤ 999999) :
    Calls Tryz.prog 75 #[v1, v2] w (OverP m n w) := callsIn_wide.1 (over_in v1 v2 m n w h1 h2 hn hml hnl)

end Go.Proofs.YtbjgpbdkofadiaaGreatDoor
