/- Package real: round. -/
import Derived.Test.YtekbfommnmikbaaGreatDoorRealB
import Derived.Deep.Onto
import Derived.Deep.DrawnRows
namespace Go.Proofs.YtekbfommnmikbaaGreatDoor
set_option linter.unusedVariables false
set_option linter.unusedSimpArgs false
open Go.RowKit Go.Shelf Go.Proofs Go.Sort
attribute [local go_sem ↓] Go.wp_at_zero Go.wp_at_succ

/-- What round panics with. -/
def bigChain : List PanicEntry := [{ v := .iface 146 (.agg #[]), recovered := false }]
/-- How round ends. -/
def roundE (s : Bool) : Option (Nat × Int) → Ending
  | some (m, x) => .returned (.agg #[.int .i64 (sgm s m), .int .i64 x])
  | none => .panicked bigChain
def withMore (ds : List Int) (more : Bool) : List Int := if more then ds ++ [1] else ds
def expMore (e : Int) (more : Bool) : Int := if more then e - 1 else e

theorem bx2h (w : World) (a0 a1 : Array Value) (t0 t1 : TypeId) : ∃ W, (w.alloc (.cells a0 t0)).alloc (.cells a1 t1) = W ∧ W.heap[w.heap.size]? = some (.cells a0 t0 (0, 0)) ∧ W.heap[w.heap.size + 1]? = some (.cells a1 t1 (0, 0)) ∧ Below w.heap.size w W ∧ W.heap.size = w.heap.size + 2 :=
  ⟨_, rfl, heap_old _ (heap_alloc_new _ _), heap_new' _ _ _ (by simp), ((Below.refl _ _).alloc (Nat.le_refl _) _).alloc (by simp) _, by simp⟩
theorem grownB {w w1 : World} {v : Value} {B : Nat} {o : Obj} (hg : w.grownBy w1 v.ownBlock) (hb : w.heap[B]? = some o) (hv : v.ownBlock ≠ some B) : w1.heap[B]? = some o := by
  rw [hg.block B (Array.getElem?_eq_some_iff.1 hb).1 (Ne.symm hv)]; exact hb
theorem own_neB {w : World} {base : Nat} {e : TypeId} {size : Nat} {v : Value} {n : Nat} {xs : List Value} (h : w.ownsRow base e size v n xs) {B : Nat} (hB : B < base) : v.ownBlock ≠ some B := fun e => by
  have := (h.lt _ e).1
  omega
theorem heapB {w w1 : World} {B : Nat} {o : Obj} (hb : Below w.heap.size w w1) (h : w.heap[B]? = some o) : w1.heap[B]? = some o := (hb.block B (Array.getElem?_eq_some_iff.1 h).1).trans h

theorem putB {w : World} {g : Nat} {cs : Array Value} {t : TypeId} {fz : Nat × Nat} (h : w.heap[g]? = some (.cells cs t fz)) (i : Nat) (v : Value) :
    (w.setCell ⟨g, i, none⟩ v).heap[g]? = some (.cells (cs.setIfInBounds i v) t fz) := by
  obtain ⟨hlt, h'⟩ := Array.getElem?_eq_some_iff.1 h
  show (w.heap.modify g _)[g]? = _
  rw [Array.getElem?_eq_getElem (by simpa using hlt), Array.getElem_modify_self, h']
  rfl

/-- A slice of digits in an array of the call's own (from block B on), from wherever on, its spare cells known. -/
def Bs (B : Nat) (w : World) (v : Value) (xs : List Int) : Prop :=
  ∃ g off c cur, v = .slice (some ⟨g, off, none⟩) xs.length c ∧ B ≤ g ∧ w.heap[g]? = some (.cells cur 5 (0, 0)) ∧ xs.length ≤ c ∧ c ≤ maxLen ∧ off + c ≤ cur.size ∧ ∀ j, j < xs.length → cur[off + j]? = some (.int .u8 (xs[j]?.getD 0))
theorem Bs.row {B : Nat} {w : World} {v : Value} {xs : List Int} (h : Bs B w v xs) : ∃ A c, v = .slice A xs.length c ∧ xs.length ≤ c ∧ c ≤ 9223372036854775807 ∧ Row .u8 w A xs := by
  obtain ⟨g, off, c, cur, rfl, h1, h2, h3, h4, h5, h6⟩ := h
  refine ⟨_, c, rfl, h3, by unfold maxLen at h4; omega, fun j hj => ⟨_, rfl, ?_⟩⟩
  rw [add_lit, cell_of_heap h2]
  exact h6 j hj
theorem Bs.lt {B : Nat} {w : World} {v : Value} {xs : List Int} (h : Bs B w v xs) : B < w.heap.size := by
  obtain ⟨g, off, c, cur, rfl, h1, h2, -⟩ := h
  have := (Array.getElem?_eq_some_iff.1 h2).1
  omega
theorem own_bs {B : Nat} {w : World} {v : Value} {xs : List Int} {n : Nat} (h : w.ownsRow B 5 1 v n (xs.map (Value.int .u8))) (hn : 0 < n) : Bs B w v xs := by
  have hl : xs.length = n := by have := h.1; simpa using this
  rcases h.2 with ⟨_, h0⟩ | ⟨g, cap, cur, rfl, hb, hh, h1, hm, hs, ht⟩
  · omega
  · refine ⟨g, 0, cap, cur, by rw [hl], hb, hh, by omega, hm, by omega, fun j hj => ?_⟩
    have h2 : (cur.toList.take (n * 1))[j]? = (xs.map (Value.int .u8))[j]? := by rw [ht]
    rw [List.getElem?_take_of_lt (by omega), Array.getElem?_toList, List.getElem?_map, List.getElem?_eq_getElem hj] at h2
    rw [Nat.zero_add, h2, List.getElem?_eq_getElem hj]; rfl
theorem Bs.tail {B : Nat} {w : World} {a : Addr} {d : Int} {t : List Int} {c : Nat} (h : Bs B w (.slice (some a) (t.length + 1) c) (d :: t)) (hc : c ≠ 1) : Bs B w (.slice (some ⟨a.block, a.off + 1, none⟩) t.length (c - 1)) t := by
  obtain ⟨g, off, c', cur, e, h1, h2, h3, h4, h5, h6⟩ := h
  have e1 := (Value.slice.inj e).1
  have e3 := (Value.slice.inj e).2.2
  cases e1; subst e3
  rw [List.length_cons] at h3
  refine ⟨g, off + 1, c - 1, cur, rfl, h1, h2, by omega, by omega, by omega, fun j hj => ?_⟩
  have := h6 (j + 1) (by rw [List.length_cons]; omega)
  rw [show off + 1 + j = off + (j + 1) by omega, this]
  simp

theorem setCells_one (w : World) (b o : Nat) (v : Value) : w.setCells b o [v] = w.setCell ⟨b, o, none⟩ v := rfl

/-- One digit more. -/
theorem wp_bpush {ops : Array Oper} {rest : List Oper} {op : Oper} {a : Act} {Q : Exit → Act → World → Prop} (hgd : op.guard = none) (s x : Operand)
    (ho : op.op = .call { callee := .builtin .append, args := #[s, x], argTypes := #[93, 93] })
    {B : Nat} {W : World} {v : Value} {xs : List Int} (hs : a.eval s = v) (h : Bs B W v xs) (d : Int) (hx : a.eval x = .slice (some ⟨W.heap.size, 0, none⟩) 1 1) (hl : xs.length ≤ 100000000)
    (hK : ∀ v' w', Bs B w' v' (xs ++ [d]) → Below B W w' → wpList Tryz.prog ops Q rest (a.put op.dst v') w') :
    wpList Tryz.prog ops Q (op :: rest) a (W.alloc (.cells #[.int .u8 d] 5)) := by
  obtain ⟨i0, hi, hz0, hz1, hz2⟩ := info_parts info_byte
  have hB := h.lt
  obtain ⟨g, off, c, cur, rfl, h1, h2, h3, h4, h5, h6⟩ := h
  have hgl : g < W.heap.size := (Array.getElem?_eq_some_iff.1 h2).1
  have h2' : (W.alloc (.cells #[.int .u8 d] 5)).heap[g]? = some (.cells cur 5 (0, 0)) := heap_old _ h2
  have hb0 : Below B W (W.alloc (.cells #[.int .u8 d] 5)) := (Below.refl _ _).alloc (by omega) _
  refine wpList_append_arg _ hgd s x 93 ho 5 i0 (.int .u8 0) 1 1 Tryz.underlying93 hi hz0 hz1 hz2 rfl (by decide) g off xs.length c (xs.map (Value.int .u8)) hs (by simp) ?_ ⟨W.heap.size, 0, none⟩ 1 1 [.int .u8 d] hx rfl (World.news_of_block (heap_alloc_new _ _)) (by simp [Value.oneCell']) ?_ (by unfold maxLen; omega) (by omega) ?_ ?_
  · intro j u hj
    have hjn : j < xs.length := by
      have := (List.getElem?_eq_some_iff.1 hj).1
      simpa using this
    rw [cell_of_heap h2', h6 j hjn]
    rw [List.getElem?_map, List.getElem?_eq_getElem hjn] at hj
    rw [List.getElem?_eq_getElem hjn]
    exact hj
  · intro hroom j hj
    have hj0 : j = 0 := by simpa using hj
    subst hj0
    refine ⟨?_, free_of_heap h2' _⟩
    rw [cell_of_heap h2', Array.getElem?_eq_getElem (by omega)]; rfl
  · intro hroom
    rw [setCells_one]
    refine hK _ _ ⟨g, off, c, cur.setIfInBounds (off + xs.length * 1) (.int .u8 d), by rw [List.length_append]; rfl, h1, putB h2' _ _, by rw [List.length_append]; simpa using hroom, h4, by simpa using h5, fun j hj => ?_⟩ (hb0.setCell (p := ⟨g, off + xs.length * 1, none⟩) h1 _)
    rw [List.length_append, List.length_singleton] at hj
    rw [Array.getElem?_setIfInBounds]
    by_cases e : j < xs.length
    · rw [if_neg (by omega), h6 j e, List.getElem?_append_left e]
    · obtain rfl : j = xs.length := by omega
      rw [if_pos (by omega), if_pos (by omega)]; simp
  · intro hgr v' w' hown hg
    have hown' : w'.ownsRow (W.heap.size + 1) 5 1 v' (xs.length + 1) ((xs ++ [d]).map (Value.int .u8)) := by rw [List.map_append]; simpa using hown
    refine hK _ _ ?_ (hb0.grown hg (by simp; omega) (fun k e => by cases e))
    obtain ⟨g', o', c', cur', k1, k2, k3⟩ := own_bs hown' (by omega)
    exact ⟨g', o', c', cur', k1, by omega, k3⟩

theorem near_zero {l : List Int} : nearV l 0 = if 10 ^ l.length < 2 * (vd l).toNat then 1 else 0 := by
  unfold nearV halfUp
  by_cases h : 10 ^ l.length < 2 * (vd l).toNat
  · rw [if_pos h, if_pos (.inl h)]
  · rw [if_neg h, if_neg (by omega)]
theorem near_le (l : List Int) (q : Nat) : nearV l q ≤ 1 := half_le _ _ _
theorem strip_self {d : Int} {t : List Int} (h : d ≠ 0) : strip (d :: t) = d :: t := by unfold strip; rw [if_neg h]
theorem vd_pos {d : Int} {t : List Int} (h : InR 10 (d :: t)) (hd : d ≠ 0) : 0 < (vd (d :: t)).toNat := by
  rcases Nat.eq_zero_or_pos (vd (d :: t)).toNat with e | e
  · have := nd_vd h hd
    rw [e, nd_zero] at this; omega
  · exact e
theorem add_k (a : Addr) (k j : Nat) (hk : 0 < k) : (⟨a.block, a.off + k, none⟩ : Addr).add j = a.add (k + j) := by
  unfold Addr.add
  rw [if_neg (show ¬ k + j = 0 by omega)]
  split
  · rename_i h; subst h; rfl
  · simp; omega
theorem row_drop {kd : IntKind} {w : World} {a : Addr} {l : List Int} {k : Nat} (hk : 0 < k) (h : Row kd w (some a) l) : Row kd w (some ⟨a.block, a.off + k, none⟩) (l.drop k) := fun j hj => by
  obtain ⟨a', e, hc⟩ := h (k + j) (by simp at hj; omega)
  cases e
  exact ⟨_, rfl, by rw [add_k _ _ _ hk]; simpa using hc⟩
theorem row_take {kd : IntKind} {w : World} {A : Option Addr} {l : List Int} (k : Nat) (h : Row kd w A l) : Row kd w A (l.take k) := fun j hj => by
  have hj' : j < k ∧ j < l.length := by simp at hj; omega
  obtain ⟨a', e, hc⟩ := h j hj'.2
  exact ⟨a', e, by rw [hc, List.getElem?_take_of_lt hj'.1]⟩

set_option maxRecDepth 100000 in
set_option maxHeartbeats 4000000 in
theorem round_c (s : Bool) (A : Option Addr) (c : Nat) (ds : List Int) (e : Int) (more : Bool) (w : World) (hr : Row .u8 w A ds) (hc : ds.length ≤ c) (hm : c ≤ 9223372036854775807) (hi : InR 10 ds) (hl : ds.length ≤ 1000000) (he : -1000000000 ≤ e) (he2 : e ≤ 1000000000) :
    Calls Tryz.prog 155 #[.agg #[.bool s, .slice A ds.length c, .int .i64 e, .bool more]] w fun en w' => en = roundE s (rnd (vd (withMore ds more)).toNat (expMore e more)) ∧ Below w.heap.size w w' := by
  obtain ⟨W, hW, k0, k1, hbel, hsz⟩ := bx2h w #[.bool s, .slice A ds.length c, .int .i64 e, .bool more] #[.int .i64 0, .int .i64 0] 95 23
  have c00 := cell_of_heap k0 0; have c01 := cell_of_heap k0 1; have c02 := cell_of_heap k0 2; have c03 := cell_of_heap k0 3
  simp at c00 c01 c02 c03
  have HR := Lib.hid (hr.below hbel)
  have HK0 := Lib.hid k0; have HK1 := Lib.hid k1; have HBEL := Lib.hid hbel; have HSZ := Lib.hid hsz
  have HI := Lib.hid hi
  obtain ⟨ds1, hds1⟩ : ∃ ds1, withMore ds more = ds1 := ⟨_, rfl⟩
  obtain ⟨e1, he1⟩ : ∃ e1, expMore e more = e1 := ⟨_, rfl⟩
  rw [hds1, he1]
  have HDS := Lib.hid hds1; have HE1 := Lib.hid he1
  have HI1 : Hid (InR 10 ds1) := by
    show InR 10 ds1
    rw [← hds1]; unfold withMore
    split
    · exact hi.snoc (by decide) (by decide)
    · exact hi
  have hl1 : ds1.length ≤ 1000001 := by
    rw [← hds1]; unfold withMore
    split
    · rw [List.length_append, List.length_singleton]; omega
    · omega
  have hb1 : -1000000001 ≤ e1 := by rw [← he1]; unfold expMore; split <;> omega
  have hb2 : e1 ≤ 1000000000 := by rw [← he1]; unfold expMore; split <;> omega
  clear hr k0 k1 hbel hsz hi hds1 he1
  go_enter Tryz.func155, Tryz.ntmps155
  go_upto_if 13 with (go_at_call 201; (with_reducible refine (bclone_c A c ds _ HR.out (by omega)).mono ?_); rintro en w1 ⟨v1, rfl, hown, hbz⟩; have HOW := Lib.hid hown; have HBZ := Lib.hid hbz; have c00 := keep_cell hbz c00; have c02 := keep_cell hbz c02; have c03 := keep_cell hbz c03; clear hown hbz)
  have HKA := Lib.hid (heapB (o := .cells #[.bool s, .slice A ds.length c, .int .i64 e, .bool more] 95 (0, 0)) HBZ.out HK0.out)
  have HKB := Lib.hid (heapB (o := .cells #[.int .i64 0, .int .i64 0] 23 (0, 0)) HBZ.out HK1.out)
  have HB1 := Lib.hid (below_then' HBEL.out HBZ.out)
  have hsw : W.heap.size ≤ w1.heap.size := HBZ.out.size
  have hsz : W.heap.size = w.heap.size + 2 := HSZ.out
  have HS2 := Lib.hid hsz
  clear c01 hsz
  go_cut [3] from 12 to 20 (fun v wx => Hid (wx.ownsRow W.heap.size 5 1 v ds1.length (ds1.map (Value.int .u8))) ∧ Hid (wx.heap[w.heap.size]? = some (.cells #[.bool s, .slice A ds.length c, .int .i64 e1, .bool more] 95 (0, 0))) ∧ Hid (wx.heap[w.heap.size + 1]? = some (.cells #[.int .i64 0, .int .i64 0] 23 (0, 0))) ∧ Hid (Below w.heap.size w wx))
  case first =>
    cases more
    · go_wp2_with fail
      go_meet
      obtain rfl : ds = ds1 := HDS.out
      obtain rfl : e = e1 := HE1.out
      exact ⟨HOW.out, HKA.out, HKB.out, HB1.out⟩
    · have f02 := free_of_heap HKA.out 2
      obtain ⟨i0, hi, hz0, hz1, hz2⟩ := info_parts info_byte
      have HI2 := Lib.hid (And.intro hi (And.intro hz0 (And.intro hz1 hz2)))
      clear hi hz0 hz1 hz2
      have HNA := Lib.hid (own_neB HOW.out (B := w.heap.size) (by have := HS2.out; omega))
      have HNB := Lib.hid (own_neB HOW.out (B := w.heap.size + 1) (by have := HS2.out; omega))
      have a02 := fun o => keep_cell ((Below.refl w1.heap.size w1).alloc (Nat.le_refl _) o) c02
      have hwe : IntKind.i64.wrap (e - 1) = e - 1 := IntWalk.i64_in _ (by omega)
      go_wp2_with fail
      go_region_law ((refine step_append_lies _ (by rfl) _ _ _ (by rfl) W.heap.size 5 i0 (.int .u8 0) 1 1 Tryz.underlying93 HI2.out.1 HI2.out.2.1 HI2.out.2.2.1 HI2.out.2.2.2 rfl (by decide) v1 _ _ (by rfl) ((HOW.out.alloc _).drew) ⟨w1.heap.size, 0, none⟩ 1 1 [.int .u8 1] (by rfl) (by rfl) (World.news_of_block (heap_alloc_new w1 _)) (by simp [Value.oneCell']) (by omega) (by unfold maxLen; omega) (by omega) (by simp; omega) (w1.heap.size + 1) (by simp) ?_; intro gg cap w2 hown2 hgrow hat hlt1; have HO2 := Lib.hid hown2; have HG2 := Lib.hid hgrow; have hxa := grownB hgrow (show ((w1.alloc (.cells #[.int .u8 1] 5)).drew).heap[w.heap.size]? = some _ from heap_old _ HKA.out) HNA.out; have hxb := grownB hgrow (show ((w1.alloc (.cells #[.int .u8 1] 5)).drew).heap[w.heap.size + 1]? = some _ from heap_old _ HKB.out) HNB.out; have y2 := cell_of_heap hxa 2; have z2 := free_of_heap hxa 2; have HXA := Lib.hid hxa; have HXB := Lib.hid hxb; simp at y2; clear hown2 hgrow hxa hxb))
      all_goals
        go_wp2_with fail
        go_meet
        obtain rfl : ds ++ [1] = ds1 := HDS.out
        obtain rfl : e - 1 = e1 := HE1.out
        have h1 := own_setCell_other HO2.out ⟨w.heap.size, 2, none⟩ (.int .i64 (e - 1)) (own_neB HO2.out (B := w.heap.size) (by have := HS2.out; omega))
        refine ⟨?_, putB HXA.out 2 _, ?_, ?_⟩
        · rw [List.map_append, List.length_append]; exact h1
        · exact (Below.heap_setCell _ _ _ _ (by simp)).trans HXB.out
        · exact ((HB1.out.alloc HB1.out.size _).drew.grown HG2.out (by have := HB1.out.size; simp; omega) ((own_from HOW.out).mono (by have := HS2.out; omega))).setCell (p := ⟨w.heap.size, 2, none⟩) (Nat.le_refl _) _
  case rest =>
    obtain ⟨HOX, HXA, HXB, HBX⟩ := hcut
    obtain ⟨A1, c1, rfl, hc1, hm1, hr1, -⟩ := own_row HOX.out
    have HR1 := Lib.hid hr1
    have hm1' : c1 ≤ 9223372036854775807 := by unfold maxLen at hm1; omega
    have HBS1 : Hid (ds1.drop 0 ≠ [] → Bs W.heap.size wc (.slice A1 ds1.length c1) (ds1.drop 0)) := fun h => own_bs HOX.out (List.length_pos_iff.2 h)
    have x00 := cell_of_heap HXA.out 0; have x02 := cell_of_heap HXA.out 2
    have r0 := cell_of_heap HXB.out 0; have r1 := cell_of_heap HXB.out 1
    have z0 := free_of_heap HXB.out 0; have z1 := free_of_heap HXB.out 1
    simp at x00 x02 r0 r1
    clear hr1 hm1 hl he he2 hc hm hsw HOX c00 c02 c03
    go_wp2_with fail
    go_loopg [3] ds1.length (fun g lv wr => ∃ (k : Nat) (l : List Int) (A' : Option Addr) (c' : Nat), lv = .slice A' l.length c' ∧ Hid (l.length = g) ∧ Hid (strip l = strip ds1) ∧ l.length ≤ c' ∧ c' ≤ 9223372036854775807 ∧ Hid (InR 10 l) ∧ l.length ≤ 1000001 ∧ Hid (Row .u8 wc A' l) ∧ Hid (l ≠ [] → Bs W.heap.size wc lv l) ∧ wr = wc)
    case atStart => exact ⟨0, ds1, A1, c1, rfl, rfl, rfl, hc1, hm1', HI1.out, hl1, HR1.out, HBS1.out, rfl⟩
    case round =>
      clear hc1 hm1' HR1 HBS1
      obtain ⟨k, l, A', c', rfl, HG, HST, hc', hm', HIL, hll, HRW, HBS, rfl⟩ := hrel
      cases l with
      | nil =>
        have HV : Hid (vd ds1 = 0) := (strip_nil HI1.out).1 (by rw [← HST.out]; rfl)
        go_wp2_with fail
        refine bodyPost_ret (v := .agg #[.int .i64 0, .int .i64 0]) (by simp [results, Tryz.results155, go_sem, r0, r1]) rfl ?_
        rw [HV.out]
        refine ⟨?_, ?_⟩
        · show _ = roundE s (rnd 0 e1)
          rw [rnd_zero]
          cases s <;> rfl
        · exact (HBX.out.setCell (p := ⟨w.heap.size + 1, 0, none⟩) (by simp) _).setCell (p := ⟨w.heap.size + 1, 1, none⟩) (by simp) _
      | cons d t =>
        rw [List.length_cons] at *
        obtain ⟨a, rfl, hcell⟩ := HRW.out 0 (by simp)
        have hcell : wr.cell? a = some (.int .u8 d) := by have h0 : wr.cell? (a.add 0) = some (.int .u8 d) := hcell; rwa [add_zero] at h0
        by_cases hd : d = 0
        · subst hd
          have HRT := Lib.hid (row_tail HRW.out)
          have HIT := Lib.hid HIL.out.tail
          have HBT := Lib.hid (fun h : c' ≠ 1 => (show Bs W.heap.size wr _ _ from HBS.out (by simp)).tail h)
          have HS1 : Hid (strip t = strip ds1) := by show _ = _; rw [← HST.out]; rfl
          have HGK : Hid (t.length < gk) := by have := HG.out; show _ < _; omega
          go_wp2_with fail
          · have ht : t = [] := List.eq_nil_of_length_eq_zero (by omega)
            have HT := Lib.hid ht
            clear ht
            go_roundg t.length
            case measure => exact HGK.out
            case rel => exact ⟨0, t, some a, 0, rfl, rfl, HS1.out, by rw [HT.out]; exact Nat.le_refl _, by omega, HIT.out, by omega, by rw [HT.out]; exact Row.nil, fun h => absurd HT.out h, rfl⟩
          · have hne : c' ≠ 1 := by assumption
            have HNE := Lib.hid hne
            go_roundg t.length
            case measure => exact HGK.out
            case rel => exact ⟨0, t, some ⟨a.block, a.off + 1, none⟩, c' - 1, rfl, rfl, HS1.out, by have := HNE.out; omega, by omega, HIT.out, by omega, HRT.out, fun _ => HBT.out HNE.out, rfl⟩
        · have HD := Lib.hid hd
          have hd1 : (d == 0) = false := by simpa using hd
          have HN : Hid (vd ds1 = vd (d :: t)) := by show _ = _; rw [← strip_vd ds1, ← HST.out, strip_self hd]
          have HND := Lib.hid (nd_vd HIL.out hd)
          have HNP := Lib.hid (vd_pos HIL.out hd)
          have HBT := Lib.hid (show Bs W.heap.size wr _ _ from HBS.out (by simp))
          obtain ⟨T, hT⟩ : ∃ T, (t.length : Int) + 1 + e1 = T := ⟨_, rfl⟩
          have HT := Lib.hid hT
          have hT1 : -1000000001 ≤ T := by omega
          have hT2 : T ≤ 1000000000 + 1000001 := by omega
          clear hd HST HG HBS
          by_cases t1 : T < -100
          · have HRN : Hid (rnd (vd ds1).toNat e1 = some (0, 0)) := by show _ = _; rw [HN.out]; unfold rnd; rw [if_pos (.inr (by rw [HND.out]; have := HT.out; omega))]
            have hdt : decide (T < -100) = true := decide_eq_true t1
            go_wp2_with fail
            refine bodyPost_ret (v := .agg #[.int .i64 0, .int .i64 0]) (by simp [results, Tryz.results155, go_sem, r0, r1]) rfl ?_
            rw [HRN.out]
            refine ⟨by cases s <;> rfl, (HBX.out.setCell (p := ⟨w.heap.size + 1, 0, none⟩) (by simp) _).setCell (p := ⟨w.heap.size + 1, 1, none⟩) (by simp) _⟩
          · have hdt : decide (T < -100) = false := decide_eq_false t1
            by_cases t2 : T = -100
            · obtain rfl : T = -100 := t2
              obtain ⟨nv, hnv⟩ : ∃ nv, nearV (d :: t) 0 = nv := ⟨_, rfl⟩
              have hnv1 : nv ≤ 1 := by rw [← hnv]; exact near_le _ _
              rcases (show nv = 0 ∨ nv = 1 by omega) with rfl | rfl
              · have HNR : Hid (∀ w', Below wr.heap.size wr w' → Calls Tryz.prog 90 #[.slice (some a) (t.length + 1) c', .int .i64 0] w' fun e w'' => e = .returned (.int .i64 0) ∧ w' = w'') := fun w' hb => by
                  have := near_c (some a) c' (d :: t) 0 w' (HRW.out.below hb) hc' hm' HIL.out (by decide)
                  rw [hnv] at this
                  exact this
                have HRN : Hid (rnd (vd ds1).toNat e1 = some (0, 0)) := by
                  show _ = _
                  rw [HN.out]; unfold rnd
                  rw [if_neg (by rw [HND.out]; have := HT.out; have := HNP.out; omega), if_pos (by rw [HND.out]; have := HT.out; omega), HND.out]
                  rw [near_zero] at hnv
                  have hnv' := hnv
                  rw [List.length_cons] at hnv'
                  split at hnv' <;> first | (exfalso; omega) | (rename_i hh; first | rw [if_pos hh] | rw [if_neg hh])
                clear hnv
                have hw0 : IntKind.i64.wrap 0 = 0 := IntWalk.i64_in _ (by omega)
                have hw1 : IntKind.i64.wrap 100000000000 = 100000000000 := IntWalk.i64_in _ (by omega)
                have hw2 : IntKind.i64.wrap (-111) = -111 := IntWalk.i64_in _ (by omega)
                go_wp2_with fail
                go_region_with (first
                  | (go_at_call 90; (with_reducible refine (HNR.out _ ?_).mono ?_); (first | exact Below.refl _ _ | exact (Below.refl _ _).drew); rintro en w' ⟨rfl, rfl⟩)
                  | (go_at_call 202; (with_reducible refine (put_c s 0 0 _ (by decide) (by decide)).mono ?_); rintro en w3 ⟨rfl, hbz⟩; have hb3 := below_then' (Below.refl wr.heap.size wr).drew hbz; have q0 := cell_of_heap (heapB hb3 HXB.out) 0; have q1 := cell_of_heap (heapB hb3 HXB.out) 1; have y0 := free_of_heap (heapB hb3 HXB.out) 0; have y1 := free_of_heap (heapB hb3 HXB.out) 1; have HB3 := Lib.hid hb3; simp at q0 q1; clear hbz hb3))
                all_goals
                  go_wp2_with fail
                  refine bodyPost_ret (v := .agg #[.int .i64 (sgm s 0), .int .i64 0]) (by simp [results, Tryz.results155, go_sem, q0, q1]) rfl ?_
                  rw [HRN.out]
                  exact ⟨rfl, ((below_then' HBX.out HB3.out).setCell (p := ⟨w.heap.size + 1, 0, none⟩) (by simp) _).setCell (p := ⟨w.heap.size + 1, 1, none⟩) (by simp) _⟩
              · have HNR : Hid (∀ w', Below wr.heap.size wr w' → Calls Tryz.prog 90 #[.slice (some a) (t.length + 1) c', .int .i64 0] w' fun e w'' => e = .returned (.int .i64 1) ∧ w' = w'') := fun w' hb => by
                  have := near_c (some a) c' (d :: t) 0 w' (HRW.out.below hb) hc' hm' HIL.out (by decide)
                  rw [hnv] at this
                  exact this
                have HRN : Hid (rnd (vd ds1).toNat e1 = some (100000000000, (-111))) := by
                  show _ = _
                  rw [HN.out]; unfold rnd
                  rw [if_neg (by rw [HND.out]; have := HT.out; have := HNP.out; omega), if_pos (by rw [HND.out]; have := HT.out; omega), HND.out]
                  rw [near_zero] at hnv
                  have hnv' := hnv
                  rw [List.length_cons] at hnv'
                  split at hnv' <;> first | (exfalso; omega) | (rename_i hh; first | rw [if_pos hh] | rw [if_neg hh])
                clear hnv
                have hw0 : IntKind.i64.wrap 0 = 0 := IntWalk.i64_in _ (by omega)
                have hw1 : IntKind.i64.wrap 100000000000 = 100000000000 := IntWalk.i64_in _ (by omega)
                have hw2 : IntKind.i64.wrap (-111) = -111 := IntWalk.i64_in _ (by omega)
                go_wp2_with fail
                go_region_with (first
                  | (go_at_call 90; (with_reducible refine (HNR.out _ ?_).mono ?_); (first | exact Below.refl _ _ | exact (Below.refl _ _).drew); rintro en w' ⟨rfl, rfl⟩)
                  | (go_at_call 202; (with_reducible refine (put_c s 100000000000 (-111) _ (by decide) (by decide)).mono ?_); rintro en w3 ⟨rfl, hbz⟩; have hb3 := below_then' (Below.refl wr.heap.size wr).drew hbz; have q0 := cell_of_heap (heapB hb3 HXB.out) 0; have q1 := cell_of_heap (heapB hb3 HXB.out) 1; have y0 := free_of_heap (heapB hb3 HXB.out) 0; have y1 := free_of_heap (heapB hb3 HXB.out) 1; have HB3 := Lib.hid hb3; simp at q0 q1; clear hbz hb3))
                all_goals
                  go_wp2_with fail
                  refine bodyPost_ret (v := .agg #[.int .i64 (sgm s 100000000000), .int .i64 (-111)]) (by simp [results, Tryz.results155, go_sem, q0, q1]) rfl ?_
                  rw [HRN.out]
                  exact ⟨rfl, ((below_then' HBX.out HB3.out).setCell (p := ⟨w.heap.size + 1, 0, none⟩) (by simp) _).setCell (p := ⟨w.heap.size + 1, 1, none⟩) (by simp) _⟩
            · have hdu : (T == -100) = false := by simpa using t2
              obtain ⟨n0, hn0⟩ : ∃ n0, 12 - (t.length + 1) = n0 := ⟨_, rfl⟩
              obtain ⟨p, hp⟩ : ∃ p, (d :: t) ++ List.replicate n0 0 = p := ⟨_, rfl⟩
              obtain ⟨hip, hpl, hpm⟩ := man12_of HIL.out HD.out (p := p) (by rw [hn0, hp])
              obtain ⟨M, hM⟩ : ∃ M, man12 (vd (d :: t)).toNat = M := ⟨_, rfl⟩
              obtain ⟨hM1, hM2⟩ := man12_rng HNP.out
              rw [hM] at hpm hM1 hM2
              have HRN : Hid (rnd (vd ds1).toNat e1 = fit M (T - 12)) := by
                show _ = _
                rw [HN.out]; unfold rnd
                rw [if_neg (by rw [HND.out]; have := HT.out; have := HNP.out; omega), if_neg (by rw [HND.out]; have := HT.out; omega), HND.out, hM]
                congr 1
                have := HT.out; omega
              have HIP := Lib.hid hip; have HPM := Lib.hid hpm; have HP := Lib.hid hp
              have HPL := Lib.hid (show p.length ≤ 1000013 from by rw [← hp, List.length_append, List.length_replicate, List.length_cons]; omega)
              clear hip hpm hM hp
              have hn1 : n0 ≤ 12 := by omega
              have HN0 := Lib.hid hn0
              have HX0 := Lib.hid x00
              clear hn0 t1 t2 hll
              obtain ⟨V, rfl⟩ : ∃ V : World, V = wr := ⟨_, rfl⟩
              go_wp2_with fail
              clear hcell x02
              go_loopg [3] n0 (fun g lv wr => ∃ (l : List Int) (A2 : Option Addr) (c2 : Nat), lv = .slice A2 l.length c2 ∧ g ≤ n0 ∧ Hid (l = (d :: t) ++ List.replicate (n0 - g) 0) ∧ Hid (Bs W.heap.size wr lv l) ∧ Hid (Below W.heap.size V wr))
              case atStart => exact ⟨d :: t, some a, c', rfl, Nat.le_refl _, by show _ = _; rw [Nat.sub_self]; simp, HBT.out, Below.refl _ _⟩
              case round =>
                obtain ⟨l, A2, c2, rfl, hg, HL, HBS2, HB2⟩ := hrel
                obtain ⟨A3, c3, e3, hc3, hm3, hrow3⟩ := HBS2.out.row
                obtain ⟨rfl, rfl⟩ : A2 = A3 ∧ c2 = c3 := ⟨(Value.slice.inj e3).1, (Value.slice.inj e3).2.2⟩
                clear e3
                by_cases hg0 : gk = 0
                · subst hg0
                  obtain rfl : l = p := by rw [HL.out, Nat.sub_zero, HP.out]
                  have HROW := Lib.hid hrow3
                  have hpl2 : 12 ≤ l.length := hpl
                  have HPL2 := Lib.hid hpl
                  have hpl3 : l.length ≤ 1000013 := HPL.out
                  obtain ⟨a2, rfl⟩ : ∃ a2, A2 = some a2 := by obtain ⟨a2, e, -⟩ := hrow3 0 (by omega); exact ⟨a2, e⟩
                  have HBV := Lib.hid (HBX.out.trans (HB2.out.mono (show w.heap.size ≤ W.heap.size by have := HS2.out; omega)))
                  have HXB3 : Hid (wr.heap[w.heap.size + 1]? = _) := (HB2.out.block _ (by have := HS2.out; omega)).trans HXB.out
                  have b00 : wr.cell? ⟨w.heap.size, 0, none⟩ = some (.bool s) := (World.cell?_of_block (w := V) (a := ⟨w.heap.size, 0, none⟩) (HB2.out.block _ (by have := HS2.out; show w.heap.size < _; omega))).trans HX0.out
                  clear hrow3 hg
                  go_wp2_with fail
                  obtain ⟨nv, hnv⟩ : ∃ nv, nearV (l.drop 12) (vd (l.take 12)).toNat = nv := ⟨_, rfl⟩
                  have hnv1 : nv ≤ 1 := by rw [← hnv]; exact near_le _ _
                  have HNV := Lib.hid hnv
                  clear hnv
                  go_loopg [5, 67] 12 (fun g mv iv wr3 => ∃ (k : Nat) (m : Int), iv = .int .i64 (k : Int) ∧ k + g = 12 ∧ mv = .int .i64 m ∧ Hid (m = vd (l.take k)) ∧ 0 ≤ m ∧ m ≤ 999999999999 ∧ wr3 = wr)
                  case atStart => exact ⟨0, 0, rfl, rfl, rfl, by show _ = _; simp [vd], by omega, by omega, rfl⟩
                  case round =>
                    obtain ⟨k, m, rfl, hk, rfl, HM, hm0, hm9, rfl⟩ := hrel
                    have HK := Lib.hid hk
                    by_cases hk12 : k < 12
                    · have hkl : k < l.length := by omega
                      obtain ⟨a9, e9, hcell⟩ := HROW.out k hkl
                      cases e9
                      have hin := HIP.out.at_ (by decide) k
                      rw [List.getD_eq_getElem?_getD] at hin
                      have HT2 := Lib.hid (drop_take hkl)
                      have hvl := vd_lt (HIP.out.take (k + 1))
                      have hvn := vd_nonneg (HIP.out.take (k + 1))
                      obtain ⟨x, hx⟩ : ∃ x, l[k]?.getD 0 = x := ⟨_, rfl⟩
                      rw [hx] at hcell hin HT2
                      have hin9 : x < 10 := hin.2
                      have hin0 := hin.1
                      have HST : Hid (10 * m + x = vd (l.take (k + 1))) := by show _ = _; rw [HT2.out, vd_snoc, HM.out]
                      have hlim : vd (l.take (k + 1)) < 1000000000000 := by
                        rw [List.length_take, show min (k + 1) l.length = k + 1 by omega] at hvl
                        have hpw := pow_mono' (b := 10) (i := k + 1) (j := 12) (by decide) (by omega)
                        simp only [Int.cast_ofNat_Int] at hpw
                        have hpe : (10 : Int) ^ 12 = 1000000000000 := by decide
                        omega
                      have hb1 : 10 * m + x ≤ 999999999999 := by rw [HST.out]; omega
                      have hb2 : 0 ≤ 10 * m + x := by rw [HST.out]; omega
                      have hwr : IntKind.i64.wrap x = x := IntWalk.i64_in _ (by omega)
                      clear hx hin hvl hvn hlim hk
                      go_wp2_with fail
                      go_roundg (gk - 1)
                      case measure => have := HK.out; omega
                      case rel => exact ⟨k + 1, 10 * m + x, by go_num, by have := HK.out; omega, rfl, HST.out, hb2, hb1, rfl⟩
                    · obtain rfl : k = 12 := by omega
                      obtain ⟨q, rfl⟩ : ∃ q : Nat, m = (q : Int) := ⟨m.toNat, by omega⟩
                      have HQ : Hid ((vd (l.take 12)).toNat = q) := by show _ = _; rw [← HM.out]; rfl
                      have HQM : Hid (q + nv = M) := by have := HPM.out; rw [HNV.out, HQ.out] at this; exact this
                      have hqm : (q : Int) + (nv : Int) = (M : Int) := by have := HQM.out; omega
                      clear hk hk12
                      by_cases hc12 : c2 = 12
                      · subst hc12
                        have hl12 : l.length = 12 := by omega
                        have HN1 : Hid (Calls Tryz.prog 90 #[.slice (some a2) 0 0, .int .i64 (q : Int)] wr fun e w' => e = .returned (.int .i64 (nv : Int)) ∧ wr = w') := by
                          have hnil : l.drop 12 = [] := List.drop_eq_nil_of_le (by omega)
                          have h1 := near_c (some a2) 0 [] q wr Row.nil (Nat.le_refl _) (by omega) (InR.nil 10) (by omega)
                          have h2 : nearV [] q = nv := by have := HNV.out; rw [HQ.out, hnil] at this; exact this
                          rw [h2] at h1
                          exact h1
                        clear hl12
                        by_cases hMM : M = 1000000000000
                        · have hx1 : ((M : Int) == 1000000000000) = true := by rw [hMM]; rfl
                          by_cases hX : 88 < T - 12 + 1
                          · have HFIT : Hid (fit M (T - 12) = none) := by show _ = _; unfold fit; rw [if_pos hMM, if_pos hX]
                            clear hMM
                            go_wp2_with (go_at_call 90; (with_reducible refine (HN1.out).mono ?_); rintro en w' ⟨rfl, rfl⟩)
                            rw [HRN.out, HFIT.out]
                            exact ⟨rfl, rfl, HBV.out⟩
                          · have HFIT : Hid (fit M (T - 12) = some (100000000000, T - 12 + 1)) := by show _ = _; unfold fit; rw [if_pos hMM, if_neg hX]
                            clear hMM
                            go_wp2_with (first | (go_at_call 90; (with_reducible refine (HN1.out).mono ?_); rintro en w' ⟨rfl, rfl⟩) | (go_at_call 202; (with_reducible refine (put_c s 100000000000 (T - 12 + 1) _ (by omega) (by omega)).mono ?_); rintro en w3 ⟨rfl, hbz⟩; have hb3 := hbz; have q0 := cell_of_heap (heapB hb3 HXB3.out) 0; have q1 := cell_of_heap (heapB hb3 HXB3.out) 1; have y0 := free_of_heap (heapB hb3 HXB3.out) 0; have y1 := free_of_heap (heapB hb3 HXB3.out) 1; have HB3 := Lib.hid hb3; simp at q0 q1; clear hbz hb3))
                            refine bodyPost_ret (v := .agg #[.int .i64 (sgm s 100000000000), .int .i64 ((T - 12 + 1))]) (by simp [results, Tryz.results155, go_sem, q0, q1]) rfl ?_
                            rw [HRN.out, HFIT.out]
                            exact ⟨rfl, ((below_then' HBV.out HB3.out).setCell (p := ⟨w.heap.size + 1, 0, none⟩) (by simp) _).setCell (p := ⟨w.heap.size + 1, 1, none⟩) (by simp) _⟩
                        · have hx1 : ((M : Int) == 1000000000000) = false := by rw [beq_eq_false_iff_ne]; omega
                          by_cases hX : 88 < T - 12
                          · have HFIT : Hid (fit M (T - 12) = none) := by show _ = _; unfold fit; rw [if_neg hMM, if_pos hX]
                            clear hMM
                            go_wp2_with (go_at_call 90; (with_reducible refine (HN1.out).mono ?_); rintro en w' ⟨rfl, rfl⟩)
                            rw [HRN.out, HFIT.out]
                            exact ⟨rfl, rfl, HBV.out⟩
                          · have HFIT : Hid (fit M (T - 12) = some (M, T - 12)) := by show _ = _; unfold fit; rw [if_neg hMM, if_neg hX]
                            clear hMM
                            go_wp2_with (first | (go_at_call 90; (with_reducible refine (HN1.out).mono ?_); rintro en w' ⟨rfl, rfl⟩) | (go_at_call 202; (with_reducible refine (put_c s (M : Int) (T - 12) _ (by omega) (by omega)).mono ?_); rintro en w3 ⟨rfl, hbz⟩; have hb3 := hbz; have q0 := cell_of_heap (heapB hb3 HXB3.out) 0; have q1 := cell_of_heap (heapB hb3 HXB3.out) 1; have y0 := free_of_heap (heapB hb3 HXB3.out) 0; have y1 := free_of_heap (heapB hb3 HXB3.out) 1; have HB3 := Lib.hid hb3; simp at q0 q1; clear hbz hb3))
                            refine bodyPost_ret (v := .agg #[.int .i64 (sgm s (M : Int)), .int .i64 ((T - 12))]) (by simp [results, Tryz.results155, go_sem, q0, q1]) rfl ?_
                            rw [HRN.out, HFIT.out]
                            exact ⟨rfl, ((below_then' HBV.out HB3.out).setCell (p := ⟨w.heap.size + 1, 0, none⟩) (by simp) _).setCell (p := ⟨w.heap.size + 1, 1, none⟩) (by simp) _⟩
                      · have HN1 : Hid (Calls Tryz.prog 90 #[.slice (some ⟨a2.block, a2.off + 12, none⟩) (l.length - 12) (c2 - 12), .int .i64 (q : Int)] wr fun e w' => e = .returned (.int .i64 (nv : Int)) ∧ wr = w') := by
                          have h1 := near_c (some ⟨a2.block, a2.off + 12, none⟩) (c2 - 12) (l.drop 12) q wr (row_drop (by decide) HROW.out) (by rw [List.length_drop]; omega) (by omega) (HIP.out.drop 12) (by omega)
                          have h2 : nearV (l.drop 12) q = nv := by have := HNV.out; rw [HQ.out] at this; exact this
                          rw [h2, List.length_drop] at h1
                          exact h1
                        by_cases hMM : M = 1000000000000
                        · have hx1 : ((M : Int) == 1000000000000) = true := by rw [hMM]; rfl
                          by_cases hX : 88 < T - 12 + 1
                          · have HFIT : Hid (fit M (T - 12) = none) := by show _ = _; unfold fit; rw [if_pos hMM, if_pos hX]
                            clear hMM
                            go_wp2_with (go_at_call 90; (with_reducible refine (HN1.out).mono ?_); rintro en w' ⟨rfl, rfl⟩)
                            rw [HRN.out, HFIT.out]
                            exact ⟨rfl, rfl, HBV.out⟩
                          · have HFIT : Hid (fit M (T - 12) = some (100000000000, T - 12 + 1)) := by show _ = _; unfold fit; rw [if_pos hMM, if_neg hX]
                            clear hMM
                            go_wp2_with (first | (go_at_call 90; (with_reducible refine (HN1.out).mono ?_); rintro en w' ⟨rfl, rfl⟩) | (go_at_call 202; (with_reducible refine (put_c s 100000000000 (T - 12 + 1) _ (by omega) (by omega)).mono ?_); rintro en w3 ⟨rfl, hbz⟩; have hb3 := hbz; have q0 := cell_of_heap (heapB hb3 HXB3.out) 0; have q1 := cell_of_heap (heapB hb3 HXB3.out) 1; have y0 := free_of_heap (heapB hb3 HXB3.out) 0; have y1 := free_of_heap (heapB hb3 HXB3.out) 1; have HB3 := Lib.hid hb3; simp at q0 q1; clear hbz hb3))
                            refine bodyPost_ret (v := .agg #[.int .i64 (sgm s 100000000000), .int .i64 ((T - 12 + 1))]) (by simp [results, Tryz.results155, go_sem, q0, q1]) rfl ?_
                            rw [HRN.out, HFIT.out]
                            exact ⟨rfl, ((below_then' HBV.out HB3.out).setCell (p := ⟨w.heap.size + 1, 0, none⟩) (by simp) _).setCell (p := ⟨w.heap.size + 1, 1, none⟩) (by simp) _⟩
                        · have hx1 : ((M : Int) == 1000000000000) = false := by rw [beq_eq_false_iff_ne]; omega
                          by_cases hX : 88 < T - 12
                          · have HFIT : Hid (fit M (T - 12) = none) := by show _ = _; unfold fit; rw [if_neg hMM, if_pos hX]
                            clear hMM
                            go_wp2_with (go_at_call 90; (with_reducible refine (HN1.out).mono ?_); rintro en w' ⟨rfl, rfl⟩)
                            rw [HRN.out, HFIT.out]
                            exact ⟨rfl, rfl, HBV.out⟩
                          · have HFIT : Hid (fit M (T - 12) = some (M, T - 12)) := by show _ = _; unfold fit; rw [if_neg hMM, if_neg hX]
                            clear hMM
                            go_wp2_with (first | (go_at_call 90; (with_reducible refine (HN1.out).mono ?_); rintro en w' ⟨rfl, rfl⟩) | (go_at_call 202; (with_reducible refine (put_c s (M : Int) (T - 12) _ (by omega) (by omega)).mono ?_); rintro en w3 ⟨rfl, hbz⟩; have hb3 := hbz; have q0 := cell_of_heap (heapB hb3 HXB3.out) 0; have q1 := cell_of_heap (heapB hb3 HXB3.out) 1; have y0 := free_of_heap (heapB hb3 HXB3.out) 0; have y1 := free_of_heap (heapB hb3 HXB3.out) 1; have HB3 := Lib.hid hb3; simp at q0 q1; clear hbz hb3))
                            refine bodyPost_ret (v := .agg #[.int .i64 (sgm s (M : Int)), .int .i64 ((T - 12))]) (by simp [results, Tryz.results155, go_sem, q0, q1]) rfl ?_
                            rw [HRN.out, HFIT.out]
                            exact ⟨rfl, ((below_then' HBV.out HB3.out).setCell (p := ⟨w.heap.size + 1, 0, none⟩) (by simp) _).setCell (p := ⟨w.heap.size + 1, 1, none⟩) (by simp) _⟩
                · obtain ⟨g, rfl⟩ : ∃ g, gk = g + 1 := ⟨gk - 1, by omega⟩
                  have hl12 : l.length < 12 := by
                    have h1 := congrArg List.length HL.out
                    rw [List.length_append, List.length_replicate, List.length_cons] at h1
                    have := HN0.out
                    omega
                  have HEQ : Hid (l ++ [0] = (d :: t) ++ List.replicate (n0 - g) 0) := by
                    show _ = _
                    rw [HL.out, show n0 - g = (n0 - (g + 1)) + 1 by omega, List.replicate_succ', List.append_assoc]
                  clear hrow3
                  go_wp2_with (at_builtin; refine wp_bpush rfl _ _ rfl rfl HBS2.out 0 rfl (by omega) ?_; intro v' w' hbs hbl; obtain ⟨A9, c9, rfl, -, -, -⟩ := hbs.row; have HBS3 := Lib.hid hbs; have HBL := Lib.hid hbl; clear hbs hbl)
                  go_roundg g
                  case measure => omega
                  case rel => exact ⟨l ++ [0], A9, c9, by rw [List.length_append]; rfl, by omega, HEQ.out, by have h3 := HBS3.out; rw [List.length_append] at h3; exact h3, HB2.out.trans HBL.out⟩
end Go.Proofs.YtekbfommnmikbaaGreatDoor
