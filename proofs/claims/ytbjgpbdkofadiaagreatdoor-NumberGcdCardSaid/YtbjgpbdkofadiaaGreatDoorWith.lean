/- with: some integers are read, a function makes something of them; a failure becomes an error. -/
import Derived.Test.YtbjgpbdkofadiaaGreatDoorRead
import Derived.Defers
namespace Go.Proofs.YtbjgpbdkofadiaaGreatDoor
set_option linter.unusedVariables false
set_option linter.unusedSimpArgs false
open Go.RowKit Go.Shelf Go.Proofs

/-- v is a slice of the strings l. -/
def Strs (w : World) (v : Value) (l : List ByteArray) : Prop := ∃ A c, v = .slice A l.length c ∧ ∀ j, j < l.length → ∃ a, A = some a ∧ w.cell? (a.add j) = some (.string (l[j]?.getD ⟨#[]⟩))
theorem Strs.below {w w' : World} {v : Value} {l : List ByteArray} (h : Strs w v l) (hb : Below w.heap.size w w') : Strs w' v l := by
  obtain ⟨A, c, e, h⟩ := h
  refine ⟨A, c, e, fun j hj => ?_⟩
  obtain ⟨a, e', hc⟩ := h j hj
  exact ⟨a, e', keep_cell hb hc⟩

/-- The cells of some wholes. -/
def whCells : List (Bool × Value) → List Value
  | [] => []
  | (b, p) :: l => .bool b :: p :: whCells l
theorem whCells_length : ∀ l, (whCells l).length = l.length * 2
  | [] => rfl
  | (b, p) :: l => by simp [whCells, whCells_length l]; omega
theorem whCells_append : ∀ l m, whCells (l ++ m) = whCells l ++ whCells m
  | [], m => rfl
  | (b, p) :: l, m => by simp [whCells, whCells_append l m]
theorem whCells_at : ∀ (l : List (Bool × Value)) (j : Nat) (b : Bool) (p : Value), l[j]? = some (b, p) → (whCells l)[2 * j]? = some (.bool b) ∧ (whCells l)[2 * j + 1]? = some p
  | [], j, b, p, h => by simp at h
  | (b', p') :: l, 0, b, p, h => by simp at h; obtain ⟨rfl, rfl⟩ := h; exact ⟨rfl, rfl⟩
  | (b', p') :: l, j + 1, b, p, h => by
    have := whCells_at l j b p (by simpa using h)
    rw [show 2 * (j + 1) = 2 * j + 1 + 1 by omega, show 2 * j + 1 + 1 + 1 = (2 * j + 1) + 1 + 1 by omega]
    exact this

/-- v is a slice of the wholes zs. -/
def Whs (w : World) (v : Value) (zs : List Int) : Prop := ∃ A c, v = .slice A zs.length c ∧ ∀ j, j < zs.length → ∃ a p, A = some ⟨a, 0, none⟩ ∧ w.cell? ⟨a, 2 * j, none⟩ = some (.bool (decide (zs[j]?.getD 0 < 0))) ∧ w.cell? ⟨a, 2 * j + 1, none⟩ = some p ∧ Dg 1000000000 w p (zs[j]?.getD 0).natAbs
theorem Whs.below {w w' : World} {v : Value} {zs : List Int} (h : Whs w v zs) (hb : Below w.heap.size w w') : Whs w' v zs := by
  obtain ⟨A, c, e, h⟩ := h
  refine ⟨A, c, e, fun j hj => ?_⟩
  obtain ⟨a, p, e', h1, h2, h3⟩ := h j hj
  exact ⟨a, p, e', keep_cell hb h1, keep_cell hb h2, h3.below hb⟩

/-- How a function over wholes ends. -/
inductive Out where
  | ok (v : Value)
  | err (k : Int)
def Out.end_ : Out → Ending
  | .ok v => .returned v
  | .err k => .panicked (failChain k)
/-- What with makes of it (z: the result type's zero value). -/
def Out.res (z : Value) : Out → Value
  | .ok v => .tuple #[v, .int .i64 0]
  | .err k => .tuple #[z, .int .i64 k]

/-- All strings are texts of the integers zs. -/
def AllNum (l : List ByteArray) (zs : List Int) : Prop := l.length = zs.length ∧ ∀ j, j < l.length → NumL (l[j]?.getD ⟨#[]⟩).data.toList (zs[j]?.getD 0)

/-- What has been read lies so in w: the list's own row, and the parts, none of them in that row. -/
structure Got (B : Nat) (w : World) (v : Value) (ps : List (Bool × Value)) (zs : List Int) : Prop where
  own : w.ownsRow B 72 2 v ps.length (whCells ps)
  len : ps.length = zs.length
  at_ : ∀ (j : Nat) (b : Bool) (p : Value), ps[j]? = some (b, p) → b = decide (zs[j]?.getD 0 < 0) ∧ Dg 1000000000 w p (zs[j]?.getD 0).natAbs ∧ (zs[j]?.getD 0 = 0 ∨ ∀ g, p.ownBlock = some g → g < w.heap.size ∧ v.ownBlock ≠ some g)

theorem Got.nil (B : Nat) (w : World) : Got B w (.slice none 0 0) [] [] := ⟨World.ownsRow_nil _ _ _ _, rfl, fun j b p h => by simp at h⟩

theorem Got.below {B : Nat} {w w' : World} {v : Value} {ps : List (Bool × Value)} {zs : List Int} (h : Got B w v ps zs) (hb : Below w.heap.size w w') : Got B w' v ps zs :=
  ⟨own_below h.own hb, h.len, fun j b p hj => by
    obtain ⟨h1, h2, h3⟩ := h.at_ j b p hj
    exact ⟨h1, h2.below hb, h3.imp id fun h3 g hg => ⟨Nat.lt_of_lt_of_le (h3 g hg).1 hb.size, (h3 g hg).2⟩⟩⟩

theorem Got.whs {B : Nat} {w : World} {v : Value} {ps : List (Bool × Value)} {zs : List Int} (h : Got B w v ps zs) : Whs w v zs := by
  have key : ∃ A c, v = .slice A ps.length c ∧ ∀ j, j < ps.length * 2 → ∃ a, A = some ⟨a, 0, none⟩ ∧ w.cell? ⟨a, j, none⟩ = (whCells ps)[j]? := by
    rcases h.own.2 with ⟨rfl, h0⟩ | ⟨g, cap, cur, rfl, _⟩
    · exact ⟨none, 0, by rw [h0], fun j hj => by omega⟩
    · refine ⟨_, cap, rfl, fun j hj => ⟨_, rfl, ?_⟩⟩
      have hlt : j < (whCells ps).length := by rw [whCells_length]; exact hj
      rw [List.getElem?_eq_getElem hlt]
      have := h.own.cells (g := g) rfl j _ (List.getElem?_eq_getElem hlt)
      rw [add_lit, Nat.zero_add] at this
      exact this
  obtain ⟨A, c, e, hc⟩ := key
  refine ⟨A, c, by rw [e, h.len], fun j hj => ?_⟩
  have hj' : j < ps.length := by rw [h.len]; exact hj
  obtain ⟨⟨b, p⟩, hbp⟩ : ∃ x, ps[j] = x := ⟨_, rfl⟩
  have hat : ps[j]? = some (b, p) := by rw [List.getElem?_eq_getElem hj', hbp]
  obtain ⟨h1, h2⟩ := whCells_at ps j b p hat
  obtain ⟨h3, h4, _⟩ := h.at_ j b p hat
  obtain ⟨a, ea, h5⟩ := hc (2 * j) (by omega)
  obtain ⟨a', ea', h6⟩ := hc (2 * j + 1) (by omega)
  rw [ea] at ea'; cases ea'
  exact ⟨a, p, ea, by rw [h5, h1, h3], by rw [h6, h2], h4⟩


theorem dg_any {b : Nat} {w w' : World} {p : Value} (h : Dg b w p 0) : Dg b w' p 0 := by
  obtain ⟨A, c, e, h1, h2, _⟩ := h
  rw [dg_zero] at e h1
  unfold Dg
  rw [dg_zero]
  exact ⟨A, c, e, h1, h2, Row.nil⟩
theorem dg_block {b : Nat} (hb : 2 ≤ b) {w : World} {p : Value} {n g : Nat} (h : Dg b w p n) (hn : n ≠ 0) (hg : p.ownBlock = some g) : g < w.heap.size := by
  obtain ⟨A, c, rfl, _, _, hr⟩ := h
  have : 0 < (dg b n).length := List.length_pos_iff.2 fun e => hn ((dg_eq_nil hb).1 e)
  obtain ⟨a, rfl, hc⟩ := hr 0 this
  have h1 := World.block_lt_of_cell? w _ hc
  rw [add_block] at h1
  simp [Value.ownBlock] at hg
  omega

theorem Got.push {B : Nat} {w w' : World} {v : Value} {ps : List (Bool × Value)} {zs : List Int} {b : Bool} {p : Value} {z : Int} {g cap : Nat} {o : Obj} (h : Got B w v ps zs)
    (hown : w'.ownsRow B 72 2 (.slice (some ⟨g, 0, none⟩) (ps.length + 1) cap) (ps.length + 1) (whCells ps ++ [.bool b, p])) (hgrow : (w.alloc o).grownBy w' v.ownBlock) (hg : v.ownBlock = some g ∨ g = (w.alloc o).heap.size)
    (hb : b = decide (z < 0)) (hd : Dg 1000000000 w p z.natAbs) (hp : z = 0 ∨ ∀ g', p.ownBlock = some g' → g' < w.heap.size ∧ v.ownBlock ≠ some g') : Got B w' (.slice (some ⟨g, 0, none⟩) (ps.length + 1) cap) (ps ++ [(b, p)]) (zs ++ [z]) := by
  have hsz : w.heap.size ≤ w'.heap.size := Nat.le_trans (by simp) hgrow.size
  have same : ∀ (q : Value) (x : Int), Dg 1000000000 w q x.natAbs → (x = 0 ∨ ∀ g', q.ownBlock = some g' → g' < w.heap.size ∧ v.ownBlock ≠ some g') → Dg 1000000000 w' q x.natAbs ∧ (x = 0 ∨ ∀ g', q.ownBlock = some g' → g' < w'.heap.size ∧ (Value.slice (some ⟨g, 0, none⟩) (ps.length + 1) cap).ownBlock ≠ some g') := by
    intro q x hq hf
    rcases hf with h0 | hf
    · subst h0; exact ⟨dg_any hq, .inl rfl⟩
    refine ⟨?_, .inr ?_⟩
    rotate_left
    · intro g' hg'
      obtain ⟨h1, h2⟩ := hf g' hg'
      refine ⟨by omega, fun e => ?_⟩
      have e' : g = g' := by simpa [Value.ownBlock] using e
      subst e'
      rcases hg with hg | hg
      · exact h2 hg
      · simp at hg; omega
    refine (hq.same fun g' hg' => ?_)
    obtain ⟨h1, h2⟩ := hf g' hg'
    rw [hgrow.block g' (by simp; omega) (fun e => h2 e.symm), Below.heap_alloc w o g' h1]
  refine ⟨?_, by simp [h.len], fun j b' p' hj => ?_⟩
  · rw [whCells_append, List.length_append, List.length_singleton]; exact hown
  · rcases Nat.lt_or_ge j ps.length with hlt | hge
    · rw [List.getElem?_append_left hlt] at hj
      obtain ⟨h1, h2, h3⟩ := h.at_ j b' p' hj
      have hlt' : j < zs.length := by rw [← h.len]; exact hlt
      rw [List.getElem?_append_left hlt']
      exact ⟨h1, same p' _ h2 h3⟩
    · rw [List.getElem?_append_right hge] at hj
      have hj0 : j - ps.length = 0 := by
        rcases Nat.eq_zero_or_pos (j - ps.length) with e | e
        · exact e
        · rw [List.getElem?_eq_none (by simp; omega)] at hj; cases hj
      rw [hj0] at hj
      simp at hj
      obtain ⟨rfl, rfl⟩ := hj
      rw [List.getElem?_append_right (by rw [← h.len]; exact hge), ← h.len, hj0]
      exact ⟨hb, same _ _ hd hp⟩


theorem got_more {B : Nat} {w0 w w' : World} {v : Value} {ps : List (Bool × Value)} {zs : List Int} {b : Bool} {p : Value} {z : Int} {g cap : Nat} {o : Obj} (h0 : Got B w0 v ps zs) (h : Got B w v ps zs)
    (hown : w'.ownsRow B 72 2 (.slice (some ⟨g, 0, none⟩) (ps.length + 1) cap) (ps.length + 1) (whCells ps ++ [.bool b, p])) (hgrow : (w.alloc o).grownBy w' v.ownBlock) (hg : v.ownBlock = some g ∨ g = (w.alloc o).heap.size)
    (hb : b = decide (z < 0)) (hd : Dg 1000000000 w p z.natAbs) (hf : FromB w0.heap.size p) : Got B w' (.slice (some ⟨g, 0, none⟩) (ps.length + 1) cap) (ps ++ [(b, p)]) (zs ++ [z]) := by
  refine h.push hown hgrow hg hb hd ?_
  by_cases h1 : z = 0
  · exact .inl h1
  · refine .inr fun g' hg' => ⟨dg_block (by decide) hd (by omega) hg', fun e => ?_⟩
    have h2 := hf g' hg'
    have h3 := (h0.own.lt g' e).2
    omega

theorem read_ok (S : ByteArray) (w : World) (z : Int) (h : NumL S.data.toList z) : Calls Tryz.prog 107 #[.string S] w (WhPN z w) := by
  refine (read_c S w).mono ?_
  rintro e w' (⟨z', hz', hp⟩ | ⟨hn, _⟩)
  · have : z' = z := itoa_inj (hz'.1.symm.trans h.1)
    subst this; exact hp
  · exact absurd ⟨z, h⟩ hn
theorem read_bad (S : ByteArray) (w : World) (h : ¬ ∃ z, NumL S.data.toList z) : Calls Tryz.prog 107 #[.string S] w fun e w' => e = .panicked (failChain 1) ∧ Below w.heap.size w w' := by
  refine (read_c S w).mono ?_
  rintro e w' (⟨z', hz', hp⟩ | ⟨_, h1, h2⟩)
  · exact absurd ⟨z', hz'⟩ h
  · exact ⟨h1, h2⟩
theorem info_whole : (Tryz.prog.info? 72).map (fun i => (i.zero, i.size, i.bytes)) = some (some (.agg #[.bool false, .slice none 0 0]), 2, 32) := by kernel_rfl

theorem wp_push {ops : Array Oper} {rest : List Oper} {op : Oper} {a : Act} {Q : Exit → Act → World → Prop} (hgd : op.guard = none) (s x : Operand)
    (ho : op.op = .call { callee := .builtin .append, args := #[s, x], argTypes := #[69, 69] })
    {B : Nat} {w0 W : World} {v : Value} {ps : List (Bool × Value)} {zs : List Int} {bz : Bool} {p : Value} {z : Int} (hs : a.eval s = v) (h0 : Got B w0 v ps zs) (h : Got B W v ps zs)
    (hx : a.eval x = .slice (some ⟨W.heap.size, 0, none⟩) 1 1) (hps : ps.length ≤ 10) (hB : B ≤ W.heap.size) (hb : bz = decide (z < 0)) (hd : Dg 1000000000 W p z.natAbs) (hf : FromB w0.heap.size p) (hp1 : p.oneCell' = true)
    (hK : ∀ v' w', Got B w' v' (ps ++ [(bz, p)]) (zs ++ [z]) → (W.alloc (.cells #[.bool bz, p] 72)).grownBy w' v.ownBlock → (∃ g cap, v' = .slice (some ⟨g, 0, none⟩) (ps.length + 1) cap) → wpList Tryz.prog ops Q rest (a.put op.dst v') w') :
    wpList Tryz.prog ops Q (op :: rest) a (W.alloc (.cells #[.bool bz, p] 72)) := by
  obtain ⟨i0, hi, hz0, hz1, hz2⟩ := info_parts info_whole
  refine wpList_append_lies _ hgd s x 69 ho B 72 i0 (.agg #[.bool false, .slice none 0 0]) 2 32 Tryz.underlying69 hi hz0 hz1 hz2 rfl (by decide) v ps.length (whCells ps) hs (h.own.alloc _) ⟨W.heap.size, 0, none⟩ 1 1 [.bool bz, p] hx rfl
    (World.news_of_block (heap_alloc_new _ _)) ?_ (by decide) (by unfold maxLen; omega) (by omega) (by simp; omega) _ rfl ?_
  · intro u hu
    simp at hu
    rcases hu with rfl | rfl
    · rfl
    · exact hp1
  · intro g cap w' hown hgrow hg _
    exact hK _ _ (got_more h0 h hown hgrow hg hb hd hf) hgrow ⟨g, cap, rfl⟩

/-- What with returns. -/
def WithP (l : List ByteArray) (o : List Int → Out) (z : Value) (w : World) (e : Ending) (w' : World) : Prop :=
  ((∃ zs, AllNum l zs ∧ e = .returned ((o zs).res z)) ∨ ((¬ ∃ zs, AllNum l zs) ∧ e = .returned (.tuple #[z, .int .i64 1]))) ∧ Below w.heap.size w w'

set_option maxRecDepth 100000 in
set_option maxHeartbeats 2000000 in
theorem withStr_c (g : Nat) (lb : Array Value) (eg : ∀ args w, (callFunc g args).run Tryz.prog w = .ok (.enter g args) w) (v : Value) (l : List ByteArray) (o : List Int → Out) (w : World) (hl : Strs w v l) (hlen : l.length ≤ 10)
    (hf : ∀ zs, AllNum l zs → ∀ W lv, Below w.heap.size w W → Whs W lv zs → Calls Tryz.prog g (#[lv] ++ lb) W fun e w' => e = (o zs).end_ ∧ Below W.heap.size W w') :
    Calls Tryz.prog 55 #[.func (.func g) #[] lb, v] w (WithP l o (.string ⟨#[]⟩) w) := by
  obtain ⟨A, c, rfl, hs⟩ := hl
  have HS := Lib.hid hs
  have HFN := Lib.hid hf
  clear hs hf
  go_enter_defers Tryz.func55, Tryz.ntmps55
  go_wp2_with fail
  obtain ⟨W, hW, k0, f0, hbel, hsz⟩ := boxes1 w #[.int .i64 0] 24
  rw [hW]
  have c0 : W.cell? ⟨w.heap.size, 0, none⟩ = some (.int .i64 0) := k0 0
  have f0' : W.frozen? ⟨w.heap.size, 0, none⟩ = false := f0 0
  have HBEL := Lib.hid hbel
  have HSZ : Hid (W.heap.size = w.heap.size + 1) := hsz
  clear k0 f0 hW hbel hsz
  go_wp2_with fail
  go_loopg [6, 11] l.length (fun gk lv iv wr => ∃ (i : Nat) (zs : List Int) (ps : List (Bool × Value)), iv = .int .i64 i ∧ i + gk = l.length ∧ Hid (Got (w.heap.size + 1) wr lv ps zs ∧ zs.length = i ∧ ∀ j, j < i → NumL (l[j]?.getD ⟨#[]⟩).data.toList (zs[j]?.getD 0)) ∧ wr.cell? ⟨w.heap.size, 0, none⟩ = some (.int .i64 0) ∧ wr.frozen? ⟨w.heap.size, 0, none⟩ = false ∧ Hid (Below w.heap.size w wr) ∧ Hid (w.heap.size + 1 ≤ wr.heap.size))
  case atStart => exact ⟨0, [], [], rfl, by omega, ⟨Got.nil _ _, rfl, fun j h => absurd h (by omega)⟩, c0, f0', HBEL.out.to, by show _ ≤ _; rw [HSZ.out]; exact Nat.le_refl _⟩
  case round =>
    obtain ⟨i, zs, ps, rfl, hg, HG, b0, b1, HB, HZ⟩ := hrel
    clear c0 f0'
    have HFAR : Hid (some w.heap.size ≠ u6.ownBlock) := fun e => by have := (HG.out.1.own.lt _ e.symm).1; omega
    by_cases hlt : i < l.length
    · obtain ⟨a, rfl, hc⟩ := HS.out i hlt
      have hc2 := keep_cell HB.out hc
      obtain ⟨S, hS⟩ : ∃ S, l[i]?.getD ⟨#[]⟩ = S := ⟨_, rfl⟩
      rw [hS] at hc2
      have HSE := Lib.hid hS
      clear hc hS
      by_cases hv : ∃ z, NumL S.data.toList z
      · obtain ⟨z, hz⟩ := hv
        have HZN := Lib.hid hz
        have HGK := Lib.hid hg
        have hpl : ps.length ≤ 10 := by have h1 := HG.out.1.len; have h2 := HG.out.2.1; omega
        clear hz hg
        go_wp2_with (first | (go_at_call 107; refine (read_ok S _ z HZN.out).mono ?_; rintro e W2 ⟨u, rfl, ⟨p, rfl, hd, hfr⟩, hbz⟩; have HD := Lib.hid hd; have HFR := Lib.hid hfr; obtain ⟨A6, n6, c6, rfl⟩ := hd.form; obtain ⟨bz, hbzz⟩ : ∃ bz, decide (z < 0) = bz := ⟨_, rfl⟩; rw [hbzz]; have HBZ := Lib.hid hbzz; have b1 := keep_free' hbz b0 b1; have b0 := keep_cell hbz b0; have HG2 := Lib.hid (HG.out.1.below hbz); have HB2 := Lib.hid (below_then' HB.out hbz); have HSZ2 := Lib.hid hbz.size; have HB21 := Lib.hid (Nat.le_trans HZ.out hbz.size); clear hd hfr hbzz hbz) | (at_builtin; refine wp_push rfl _ _ rfl rfl HG.out.1 HG2.out rfl hpl HB21.out HBZ.out.symm HD.out HFR.out rfl ?_; intro v' w' hg3 hgrow hform; obtain ⟨g', cap, rfl⟩ := hform; have HG3 := Lib.hid hg3; have HGR := Lib.hid hgrow; clear hg3 hgrow))
        go_roundg (gk - 1)
        case measure => have := HGK.out; omega
        case rel =>
          refine ⟨i + 1, zs ++ [z], ps ++ [(bz, .slice A6 n6 c6)], by simp, by have := HGK.out; omega, ⟨HG3.out, by rw [List.length_append, HG.out.2.1]; rfl, fun j hj => ?_⟩, ?_, ?_, ?_, ?_⟩
          · rcases Nat.lt_or_ge j i with h | h
            · rw [List.getElem?_append_left (by rw [HG.out.2.1]; exact h)]; exact HG.out.2.2 j h
            · obtain rfl : j = i := by omega
              rw [List.getElem?_append_right (by rw [HG.out.2.1]; exact Nat.le_refl _), HG.out.2.1, Nat.sub_self, HSE.out]
              exact HZN.out
          · exact (HGR.out.cell_far ⟨w.heap.size, 0, none⟩ (by have := HB21.out; simp; omega) HFAR.out).trans (keep_cell ((Below.refl _ _).alloc (Nat.le_refl _) _) b0)
          · exact (HGR.out.frozen_far ⟨w.heap.size, 0, none⟩ (by have := HB21.out; simp; omega) HFAR.out).trans (keep_free' ((Below.refl _ _).alloc (Nat.le_refl _) _) b0 b1)
          · exact (HB2.out.alloc HB2.out.size _).grown HGR.out (by have := HB2.out.size; simp; omega) (fun k hk => Nat.le_of_succ_le (HG2.out.own.lt k hk).1)
          · show _ ≤ _
            have h1 := HB21.out; have h3 := HGR.out.size
            simp at h3; omega
      · have HNV := Lib.hid hv
        have HNO : Hid (¬ ∃ zs, AllNum l zs) := by
          rintro ⟨zs', h1, h2⟩
          have := h2 i hlt
          rw [HSE.out] at this
          exact hv ⟨_, this⟩
        clear hv hg
        go_wp2_with (go_at_call 107; refine (read_bad S _ HNV.out).mono ?_; rintro e W2 ⟨rfl, hbz⟩; have b1 := keep_free' hbz b0 b1; have b0 := keep_cell hbz b0; have HB2 := Lib.hid (below_then' HB.out hbz); clear hbz)
        refine leaves_cons (f := 87) (args := #[.pointer (some ⟨w.heap.size, 0, none⟩)]) (by simp) (by simp [go_sem]) ?_
        refine (guard_panic ⟨w.heap.size, 0, none⟩ 1 (.int .i64 0) _ b0 b1).mono ?_
        rintro e u' w'' ⟨rfl, rfl, rfl⟩
        have r0 := set_same (.int .i64 1) (keep_cell ((Below.refl _ W2).alloc (Nat.le_refl _) (.cells #[.int .i64 1] 77)) b0)
        simp [Leaves, settle, results, Tryz.results55, go_sem, r0]
        exact ⟨.inr ⟨HNO.out, rfl⟩, (HB2.out.alloc HB2.out.size _).setCell (p := ⟨w.heap.size, 0, none⟩) (Nat.le_refl _) _⟩
    · obtain rfl : i = l.length := by omega
      have HAN : Hid (AllNum l zs) := ⟨HG.out.2.1.symm, HG.out.2.2⟩
      have hcc := HFN.out zs HAN.out wr u6 HB.out HG.out.1.whs
      cases ho : o zs with
      | ok r =>
        have HOO := Lib.hid ho
        rw [ho] at hcc
        have HC : Hid (Calls Tryz.prog g (#[u6] ++ lb) wr fun e w' => e = .returned r ∧ Below wr.heap.size wr w') := hcc
        clear ho hg hlt hcc
        go_wp2_with (go_at_fn g; refine HC.out.mono ?_; rintro e W2 ⟨rfl, hbz⟩; have b1 := keep_free' hbz b0 b1; have b0 := keep_cell hbz b0; have HB2 := Lib.hid (below_then' HB.out hbz); clear hbz)
        refine leaves_cons (f := 87) (args := #[.pointer (some ⟨w.heap.size, 0, none⟩)]) (by simp) (by simp [go_sem]) ?_
        refine (guard_idle ⟨w.heap.size, 0, none⟩ _).mono ?_
        rintro e u' w'' ⟨rfl, rfl, rfl⟩
        have r0 := set_same (.int .i64 0) b0
        simp [Leaves, settle, results, Tryz.results55, go_sem, r0]
        exact ⟨.inl ⟨zs, HAN.out, by rw [HOO.out]; rfl⟩, HB2.out.setCell (p := ⟨w.heap.size, 0, none⟩) (Nat.le_refl _) _⟩
      | err k =>
        have HOO := Lib.hid ho
        rw [ho] at hcc
        have HC : Hid (Calls Tryz.prog g (#[u6] ++ lb) wr fun e w' => e = .panicked (failChain k) ∧ Below wr.heap.size wr w') := hcc
        clear ho hg hlt hcc
        go_wp2_with (go_at_fn g; refine HC.out.mono ?_; rintro e W2 ⟨rfl, hbz⟩; have b1 := keep_free' hbz b0 b1; have b0 := keep_cell hbz b0; have HB2 := Lib.hid (below_then' HB.out hbz); clear hbz)
        refine leaves_cons (f := 87) (args := #[.pointer (some ⟨w.heap.size, 0, none⟩)]) (by simp) (by simp [go_sem]) ?_
        refine (guard_panic ⟨w.heap.size, 0, none⟩ k (.int .i64 0) _ b0 b1).mono ?_
        rintro e u' w'' ⟨rfl, rfl, rfl⟩
        have r0 := set_same (.int .i64 k) (keep_cell ((Below.refl _ W2).alloc (Nat.le_refl _) (.cells #[.int .i64 k] 77)) b0)
        simp [Leaves, settle, results, Tryz.results55, go_sem, r0]
        exact ⟨.inl ⟨zs, HAN.out, by rw [HOO.out]; rfl⟩, (HB2.out.alloc HB2.out.size _).setCell (p := ⟨w.heap.size, 0, none⟩) (Nat.le_refl _) _⟩

end Go.Proofs.YtbjgpbdkofadiaaGreatDoor
