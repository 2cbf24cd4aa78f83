/- Texts of this claim, merged: RealC, RealD, RealE, RealF, RealG. -/
import Derived.Test.YtekbfommnmikbaaGreatDoorU2
import Derived.Deep.Onto
import Derived.Deep.DrawnRows
import Derived.Recover
import Derived.Defers
import Derived.BigRegion
import Derived.StillTailTactics
import Derived.RegionIn
import Derived.BigRegionIn
/- Package real: round. -/
namespace Go.Proofs.YtekbfommnmikbaaGreatDoor
set_option linter.unusedVariables false
set_option linter.unusedSimpArgs false
open Go.RowKit Go.Shelf Go.Proofs Go.Sort
attribute [local go_sem ↓] Go.wp_at_zero Go.wp_at_succ

/-- What round panics with. -/
def bigChain : List PanicEntry := [{ v := .iface 146 (.agg #[]), recovered := false }]
/-- How round ends. -/
def roundE (s : Bool) : Option (Nat × Int) → Ending
  | some (m, x) => .returned (.agg #[.int .i64 (sgm s m), .int .i64 x])
  | none => .panicked bigChain
def withMore (ds : List Int) (more : Bool) : List Int := if more then ds ++ [1] else ds
def expMore (e : Int) (more : Bool) : Int := if more then e - 1 else e

theorem bx2h (w : World) (a0 a1 : Array Value) (t0 t1 : TypeId) : ∃ W, (w.alloc (.cells a0 t0)).alloc (.cells a1 t1) = W ∧ W.heap[w.heap.size]? = some (.cells a0 t0 (0, 0)) ∧ W.heap[w.heap.size + 1]? = some (.cells a1 t1 (0, 0)) ∧ Below w.heap.size w W ∧ W.heap.size = w.heap.size + 2 :=
  ⟨_, rfl, heap_old _ (heap_alloc_new _ _), heap_new' _ _ _ (by simp), ((Below.refl _ _).alloc (Nat.le_refl _) _).alloc (by simp) _, by simp⟩
theorem grownB {w w1 : World} {v : Value} {B : Nat} {o : Obj} (hg : w.grownBy w1 v.ownBlock) (hb : w.heap[B]? = some o) (hv : v.ownBlock ≠ some B) : w1.heap[B]? = some o := by
  rw [hg.block B (Array.getElem?_eq_some_iff.1 hb).1 (Ne.symm hv)]; exact hb
theorem own_neB {w : World} {base : Nat} {e : TypeId} {size : Nat} {v : Value} {n : Nat} {xs : List Value} (h : w.ownsRow base e size v n xs) {B : Nat} (hB : B < base) : v.ownBlock ≠ some B := fun e => by
  have := (h.lt _ e).1
  omega
theorem heapB {w w1 : World} {B : Nat} {o : Obj} (hb : Below w.heap.size w w1) (h : w.heap[B]? = some o) : w1.heap[B]? = some o := (hb.block B (Array.getElem?_eq_some_iff.1 h).1).trans h

theorem putB {w : World} {g : Nat} {cs : Array Value} {t : TypeId} {fz : Nat × Nat} (h : w.heap[g]? = some (.cells cs t fz)) (i : Nat) (v : Value) :
    (w.setCell ⟨g, i, none⟩ v).heap[g]? = some (.cells (cs.setIfInBounds i v) t fz) := by
  obtain ⟨hlt, h'⟩ := Array.getElem?_eq_some_iff.1 h
  show (w.heap.modify g _)[g]? = _
  rw [Array.getElem?_eq_getElem (by simpa using hlt), Array.getElem_modify_self, h']
  rfl

/-- A slice of digits in an array of the call's own (from block B on), from wherever on, its spare cells known. -/
def Bs (B : Nat) (w : World) (v : Value) (xs : List Int) : Prop :=
  ∃ g off c cur, v = .slice (some ⟨g, off, none⟩) xs.length c ∧ B ≤ g ∧ w.heap[g]? = some (.cells cur 5 (0, 0)) ∧ xs.length ≤ c ∧ c ≤ maxLen ∧ off + c ≤ cur.size ∧ ∀ j, j < xs.length → cur[off + j]? = some (.int .u8 (xs[j]?.getD 0))
theorem Bs.row {B : Nat} {w : World} {v : Value} {xs : List Int} (h : Bs B w v xs) : ∃ A c, v = .slice A xs.length c ∧ xs.length ≤ c ∧ c ≤ 9223372036854775807 ∧ Row .u8 w A xs := by
  obtain ⟨g, off, c, cur, rfl, h1, h2, h3, h4, h5, h6⟩ := h
  refine ⟨_, c, rfl, h3, by unfold maxLen at h4; omega, fun j hj => ⟨_, rfl, ?_⟩⟩
  rw [add_lit, cell_of_heap h2]
  exact h6 j hj
theorem Bs.lt {B : Nat} {w : World} {v : Value} {xs : List Int} (h : Bs B w v xs) : B < w.heap.size := by
  obtain ⟨g, off, c, cur, rfl, h1, h2, -⟩ := h
  have := (Array.getElem?_eq_some_iff.1 h2).1
  omega
theorem own_bs {B : Nat} {w : World} {v : Value} {xs : List Int} {n : Nat} (h : w.ownsRow B 5 1 v n (xs.map (Value.int .u8))) (hn : 0 < n) : Bs B w v xs := by
  have hl : xs.length = n := by have := h.1; simpa using this
  rcases h.2 with ⟨_, h0⟩ | ⟨g, cap, cur, rfl, hb, hh, h1, hm, hs, ht⟩
  · omega
  · refine ⟨g, 0, cap, cur, by rw [hl], hb, hh, by omega, hm, by omega, fun j hj => ?_⟩
    have h2 : (cur.toList.take (n * 1))[j]? = (xs.map (Value.int .u8))[j]? := by rw [ht]
    rw [List.getElem?_take_of_lt (by omega), Array.getElem?_toList, List.getElem?_map, List.getElem?_eq_getElem hj] at h2
    rw [Nat.zero_add, h2, List.getElem?_eq_getElem hj]; rfl
theorem Bs.tail {B : Nat} {w : World} {a : Addr} {d : Int} {t : List Int} {c : Nat} (h : Bs B w (.slice (some a) (t.length + 1) c) (d :: t)) (hc : c ≠ 1) : Bs B w (.slice (some ⟨a.block, a.off + 1, none⟩) t.length (c - 1)) t := by
  obtain ⟨g, off, c', cur, e, h1, h2, h3, h4, h5, h6⟩ := h
  have e1 := (Value.slice.inj e).1
  have e3 := (Value.slice.inj e).2.2
  cases e1; subst e3
  rw [List.length_cons] at h3
  refine ⟨g, off + 1, c - 1, cur, rfl, h1, h2, by omega, by omega, by omega, fun j hj => ?_⟩
  have := h6 (j + 1) (by rw [List.length_cons]; omega)
  rw [show off + 1 + j = off + (j + 1) by omega, this]
  simp

theorem setCells_one (w : World) (b o : Nat) (v : Value) : w.setCells b o [v] = w.setCell ⟨b, o, none⟩ v := rfl

/-- One digit more. -/
theorem wp_bpush {ops : Array Oper} {rest : List Oper} {op : Oper} {a : Act} {Q : Exit → Act → World → Prop} (hgd : op.guard = none) (s x : Operand)
    (ho : op.op = .call { callee := .builtin .append, args := #[s, x], argTypes := #[93, 93] })
    {B : Nat} {W : World} {v : Value} {xs : List Int} (hs : a.eval s = v) (h : Bs B W v xs) (d : Int) (hx : a.eval x = .slice (some ⟨W.heap.size, 0, none⟩) 1 1) (hl : xs.length ≤ 100000000)
    (hK : ∀ v' w', Bs B w' v' (xs ++ [d]) → Below B W w' → wpList Tryz.prog ops Q rest (a.put op.dst v') w') :
    wpList Tryz.prog ops Q (op :: rest) a (W.alloc (.cells #[.int .u8 d] 5)) := by
  obtain ⟨i0, hi, hz0, hz1, hz2⟩ := info_parts info_byte
  have hB := h.lt
  obtain ⟨g, off, c, cur, rfl, h1, h2, h3, h4, h5, h6⟩ := h
  have hgl : g < W.heap.size := (Array.getElem?_eq_some_iff.1 h2).1
  have h2' : (W.alloc (.cells #[.int .u8 d] 5)).heap[g]? = some (.cells cur 5 (0, 0)) := heap_old _ h2
  have hb0 : Below B W (W.alloc (.cells #[.int .u8 d] 5)) := (Below.refl _ _).alloc (by omega) _
  refine wpList_append_arg _ hgd s x 93 ho 5 i0 (.int .u8 0) 1 1 Tryz.underlying93 hi hz0 hz1 hz2 rfl (by decide) g off xs.length c (xs.map (Value.int .u8)) hs (by simp) ?_ ⟨W.heap.size, 0, none⟩ 1 1 [.int .u8 d] hx rfl (World.news_of_block (heap_alloc_new _ _)) (by simp [Value.oneCell']) ?_ (by unfold maxLen; omega) (by omega) ?_ ?_
  · intro j u hj
    have hjn : j < xs.length := by
      have := (List.getElem?_eq_some_iff.1 hj).1
      simpa using this
    rw [cell_of_heap h2', h6 j hjn]
    rw [List.getElem?_map, List.getElem?_eq_getElem hjn] at hj
    rw [List.getElem?_eq_getElem hjn]
    exact hj
  · intro hroom j hj
    have hj0 : j = 0 := by simpa using hj
    subst hj0
    refine ⟨?_, free_of_heap h2' _⟩
    rw [cell_of_heap h2', Array.getElem?_eq_getElem (by omega)]; rfl
  · intro hroom
    rw [setCells_one]
    refine hK _ _ ⟨g, off, c, cur.setIfInBounds (off + xs.length * 1) (.int .u8 d), by rw [List.length_append]; rfl, h1, putB h2' _ _, by rw [List.length_append]; simpa using hroom, h4, by simpa using h5, fun j hj => ?_⟩ (hb0.setCell (p := ⟨g, off + xs.length * 1, none⟩) h1 _)
    rw [List.length_append, List.length_singleton] at hj
    rw [Array.getElem?_setIfInBounds]
    by_cases e : j < xs.length
    · rw [if_neg (by omega), h6 j e, List.getElem?_append_left e]
    · obtain rfl : j = xs.length := by omega
      rw [if_pos (by omega), if_pos (by omega)]; simp
  · intro hgr v' w' hown hg
    have hown' : w'.ownsRow (W.heap.size + 1) 5 1 v' (xs.length + 1) ((xs ++ [d]).map (Value.int .u8)) := by rw [List.map_append]; simpa using hown
    refine hK _ _ ?_ (hb0.grown hg (by simp; omega) (fun k e => by cases e))
    obtain ⟨g', o', c', cur', k1, k2, k3⟩ := own_bs hown' (by omega)
    exact ⟨g', o', c', cur', k1, by omega, k3⟩

theorem near_zero {l : List Int} : nearV l 0 = if 10 ^ l.length < 2 * (vd l).toNat then 1 else 0 := by
  unfold nearV halfUp
  by_cases h : 10 ^ l.length < 2 * (vd l).toNat
  · rw [if_pos h, if_pos (.inl h)]
  · rw [if_neg h, if_neg (by omega)]
theorem near_le (l : List Int) (q : Nat) : nearV l q ≤ 1 := half_le _ _ _
theorem strip_self {d : Int} {t : List Int} (h : d ≠ 0) : strip (d :: t) = d :: t := by unfold strip; rw [if_neg h]
theorem vd_pos {d : Int} {t : List Int} (h : InR 10 (d :: t)) (hd : d ≠ 0) : 0 < (vd (d :: t)).toNat := by
  rcases Nat.eq_zero_or_pos (vd (d :: t)).toNat with e | e
  · have := nd_vd h hd
    rw [e, nd_zero] at this; omega
  · exact e
theorem add_k (a : Addr) (k j : Nat) (hk : 0 < k) : (⟨a.block, a.off + k, none⟩ : Addr).add j = a.add (k + j) := by
  unfold Addr.add
  rw [if_neg (show ¬ k + j = 0 by omega)]
  split
  · rename_i h; subst h; rfl
  · simp; omega
theorem row_drop {kd : IntKind} {w : World} {a : Addr} {l : List Int} {k : Nat} (hk : 0 < k) (h : Row kd w (some a) l) : Row kd w (some ⟨a.block, a.off + k, none⟩) (l.drop k) := fun j hj => by
  obtain ⟨a', e, hc⟩ := h (k + j) (by simp at hj; omega)
  cases e
  exact ⟨_, rfl, by rw [add_k _ _ _ hk]; simpa using hc⟩
set_option maxRecDepth 100000 in
set_option maxHeartbeats 4000000 in
theorem round_c (s : Bool) (A : Option Addr) (c : Nat) (ds : List Int) (e : Int) (more : Bool) (w : World) (hr : Row .u8 w A ds) (hc : ds.length ≤ c) (hm : c ≤ 9223372036854775807) (hi : InR 10 ds) (hl : ds.length ≤ 1000000) (he : -1000000000 ≤ e) (he2 : e ≤ 1000000000) :
    Calls Tryz.prog 155 #[.agg #[.bool s, .slice A ds.length c, .int .i64 e, .bool more]] w fun en w' => en = roundE s (rnd (vd (withMore ds more)).toNat (expMore e more)) ∧ Below w.heap.size w w' := by
  obtain ⟨W, hW, k0, k1, hbel, hsz⟩ := bx2h w #[.bool s, .slice A ds.length c, .int .i64 e, .bool more] #[.int .i64 0, .int .i64 0] 95 23
  have c00 := cell_of_heap k0 0; have c01 := cell_of_heap k0 1; have c02 := cell_of_heap k0 2; have c03 := cell_of_heap k0 3
  simp at c00 c01 c02 c03
  have HR := Lib.hid (hr.below hbel)
  have HK0 := Lib.hid k0; have HK1 := Lib.hid k1; have HBEL := Lib.hid hbel; have HSZ := Lib.hid hsz
  have HI := Lib.hid hi
  obtain ⟨ds1, hds1⟩ : ∃ ds1, withMore ds more = ds1 := ⟨_, rfl⟩
  obtain ⟨e1, he1⟩ : ∃ e1, expMore e more = e1 := ⟨_, rfl⟩
  rw [hds1, he1]
  have HDS := Lib.hid hds1; have HE1 := Lib.hid he1
  have HI1 : Hid (InR 10 ds1) := by
    show InR 10 ds1
    rw [← hds1]; unfold withMore
    split
    · exact hi.snoc (by decide) (by decide)
    · exact hi
  have hl1 : ds1.length ≤ 1000001 := by
    rw [← hds1]; unfold withMore
    split
    · rw [List.length_append, List.length_singleton]; omega
    · omega
  have hb1 : -1000000001 ≤ e1 := by rw [← he1]; unfold expMore; split <;> omega
  have hb2 : e1 ≤ 1000000000 := by rw [← he1]; unfold expMore; split <;> omega
  clear hr k0 k1 hbel hsz hi hds1 he1
  go_enter Tryz.func155, Tryz.ntmps155
  go_upto_if 13 with (go_at_call 201; (with_reducible refine (bclone_c A c ds _ HR.out (by omega)).mono ?_); rintro en w1 ⟨v1, rfl, hown, hbz⟩; have HOW := Lib.hid hown; have HBZ := Lib.hid hbz; have c00 := keep_cell hbz c00; have c02 := keep_cell hbz c02; have c03 := keep_cell hbz c03; clear hown hbz)
  have HKA := Lib.hid (heapB (o := .cells #[.bool s, .slice A ds.length c, .int .i64 e, .bool more] 95 (0, 0)) HBZ.out HK0.out)
  have HKB := Lib.hid (heapB (o := .cells #[.int .i64 0, .int .i64 0] 23 (0, 0)) HBZ.out HK1.out)
  have HB1 := Lib.hid (below_then' HBEL.out HBZ.out)
  have hsw : W.heap.size ≤ w1.heap.size := HBZ.out.size
  have hsz : W.heap.size = w.heap.size + 2 := HSZ.out
  have HS2 := Lib.hid hsz
  clear c01 hsz
  go_cut [3] from 12 to 20 (fun v wx => Hid (wx.ownsRow W.heap.size 5 1 v ds1.length (ds1.map (Value.int .u8))) ∧ Hid (wx.heap[w.heap.size]? = some (.cells #[.bool s, .slice A ds.length c, .int .i64 e1, .bool more] 95 (0, 0))) ∧ Hid (wx.heap[w.heap.size + 1]? = some (.cells #[.int .i64 0, .int .i64 0] 23 (0, 0))) ∧ Hid (Below w.heap.size w wx))
  case first =>
    cases more
    · go_wp2_with fail
      go_meet
      obtain rfl : ds = ds1 := HDS.out
      obtain rfl : e = e1 := HE1.out
      exact ⟨HOW.out, HKA.out, HKB.out, HB1.out⟩
    · have f02 := free_of_heap HKA.out 2
      obtain ⟨i0, hi, hz0, hz1, hz2⟩ := info_parts info_byte
      have HI2 := Lib.hid (And.intro hi (And.intro hz0 (And.intro hz1 hz2)))
      clear hi hz0 hz1 hz2
      have HNA := Lib.hid (own_neB HOW.out (B := w.heap.size) (by have := HS2.out; omega))
      have HNB := Lib.hid (own_neB HOW.out (B := w.heap.size + 1) (by have := HS2.out; omega))
      have a02 := fun o => keep_cell ((Below.refl w1.heap.size w1).alloc (Nat.le_refl _) o) c02
      have hwe : IntKind.i64.wrap (e - 1) = e - 1 := IntWalk.i64_in _ (by omega)
      go_wp2_with fail
      go_region_law ((refine step_append_lies _ (by rfl) _ _ _ (by rfl) W.heap.size 5 i0 (.int .u8 0) 1 1 Tryz.underlying93 HI2.out.1 HI2.out.2.1 HI2.out.2.2.1 HI2.out.2.2.2 rfl (by decide) v1 _ _ (by rfl) ((HOW.out.alloc _).drew) ⟨w1.heap.size, 0, none⟩ 1 1 [.int .u8 1] (by rfl) (by rfl) (World.news_of_block (heap_alloc_new w1 _)) (by simp [Value.oneCell']) (by omega) (by unfold maxLen; omega) (by omega) (by simp; omega) (w1.heap.size + 1) (by simp) ?_; intro gg cap w2 hown2 hgrow hat hlt1; have HO2 := Lib.hid hown2; have HG2 := Lib.hid hgrow; have hxa := grownB hgrow (show ((w1.alloc (.cells #[.int .u8 1] 5)).drew).heap[w.heap.size]? = some _ from heap_old _ HKA.out) HNA.out; have hxb := grownB hgrow (show ((w1.alloc (.cells #[.int .u8 1] 5)).drew).heap[w.heap.size + 1]? = some _ from heap_old _ HKB.out) HNB.out; have y2 := cell_of_heap hxa 2; have z2 := free_of_heap hxa 2; have HXA := Lib.hid hxa; have HXB := Lib.hid hxb; simp at y2; clear hown2 hgrow hxa hxb))
      all_goals
        go_wp2_with fail
        go_meet
        obtain rfl : ds ++ [1] = ds1 := HDS.out
        obtain rfl : e - 1 = e1 := HE1.out
        have h1 := own_setCell_other HO2.out ⟨w.heap.size, 2, none⟩ (.int .i64 (e - 1)) (own_neB HO2.out (B := w.heap.size) (by have := HS2.out; omega))
        refine ⟨?_, putB HXA.out 2 _, ?_, ?_⟩
        · rw [List.map_append, List.length_append]; exact h1
        · exact (Below.heap_setCell _ _ _ _ (by simp)).trans HXB.out
        · exact ((HB1.out.alloc HB1.out.size _).drew.grown HG2.out (by have := HB1.out.size; simp; omega) ((own_from HOW.out).mono (by have := HS2.out; omega))).setCell (p := ⟨w.heap.size, 2, none⟩) (Nat.le_refl _) _
  case rest =>
    obtain ⟨HOX, HXA, HXB, HBX⟩ := hcut
    obtain ⟨A1, c1, rfl, hc1, hm1, hr1, -⟩ := own_row HOX.out
    have HR1 := Lib.hid hr1
    have hm1' : c1 ≤ 9223372036854775807 := by unfold maxLen at hm1; omega
    have HBS1 : Hid (ds1.drop 0 ≠ [] → Bs W.heap.size wc (.slice A1 ds1.length c1) (ds1.drop 0)) := fun h => own_bs HOX.out (List.length_pos_iff.2 h)
    have x00 := cell_of_heap HXA.out 0; have x02 := cell_of_heap HXA.out 2
    have r0 := cell_of_heap HXB.out 0; have r1 := cell_of_heap HXB.out 1
    have z0 := free_of_heap HXB.out 0; have z1 := free_of_heap HXB.out 1
    simp at x00 x02 r0 r1
    clear hr1 hm1 hl he he2 hc hm hsw HOX c00 c02 c03
    go_wp2_with fail
    go_loopg [3] ds1.length (fun g lv wr => ∃ (k : Nat) (l : List Int) (A' : Option Addr) (c' : Nat), lv = .slice A' l.length c' ∧ Hid (l.length = g) ∧ Hid (strip l = strip ds1) ∧ l.length ≤ c' ∧ c' ≤ 9223372036854775807 ∧ Hid (InR 10 l) ∧ l.length ≤ 1000001 ∧ Hid (Row .u8 wc A' l) ∧ Hid (l ≠ [] → Bs W.heap.size wc lv l) ∧ wr = wc)
    case atStart => exact ⟨0, ds1, A1, c1, rfl, rfl, rfl, hc1, hm1', HI1.out, hl1, HR1.out, HBS1.out, rfl⟩
    case round =>
      clear hc1 hm1' HR1 HBS1
      obtain ⟨k, l, A', c', rfl, HG, HST, hc', hm', HIL, hll, HRW, HBS, rfl⟩ := hrel
      cases l with
      | nil =>
        have HV : Hid (vd ds1 = 0) := (strip_nil HI1.out).1 (by rw [← HST.out]; rfl)
        go_wp2_with fail
        refine bodyPost_ret (v := .agg #[.int .i64 0, .int .i64 0]) (by simp [results, Tryz.results155, go_sem, r0, r1]) rfl ?_
        rw [HV.out]
        refine ⟨?_, ?_⟩
        · show _ = roundE s (rnd 0 e1)
          rw [rnd_zero]
          cases s <;> rfl
        · exact (HBX.out.setCell (p := ⟨w.heap.size + 1, 0, none⟩) (by simp) _).setCell (p := ⟨w.heap.size + 1, 1, none⟩) (by simp) _
      | cons d t =>
        rw [List.length_cons] at *
        obtain ⟨a, rfl, hcell⟩ := HRW.out 0 (by simp)
        have hcell : wr.cell? a = some (.int .u8 d) := by have h0 : wr.cell? (a.add 0) = some (.int .u8 d) := hcell; rwa [add_zero] at h0
        by_cases hd : d = 0
        · subst hd
          have HRT := Lib.hid (row_tail HRW.out)
          have HIT := Lib.hid HIL.out.tail
          have HBT := Lib.hid (fun h : c' ≠ 1 => (show Bs W.heap.size wr _ _ from HBS.out (by simp)).tail h)
          have HS1 : Hid (strip t = strip ds1) := by show _ = _; rw [← HST.out]; rfl
          have HGK : Hid (t.length < gk) := by have := HG.out; show _ < _; omega
          go_wp2_with fail
          · have ht : t = [] := List.eq_nil_of_length_eq_zero (by omega)
            have HT := Lib.hid ht
            clear ht
            go_roundg t.length
            case measure => exact HGK.out
            case rel => exact ⟨0, t, some a, 0, rfl, rfl, HS1.out, by rw [HT.out]; exact Nat.le_refl _, by omega, HIT.out, by omega, by rw [HT.out]; exact Row.nil, fun h => absurd HT.out h, rfl⟩
          · have hne : c' ≠ 1 := by assumption
            have HNE := Lib.hid hne
            go_roundg t.length
            case measure => exact HGK.out
            case rel => exact ⟨0, t, some ⟨a.block, a.off + 1, none⟩, c' - 1, rfl, rfl, HS1.out, by have := HNE.out; omega, by omega, HIT.out, by omega, HRT.out, fun _ => HBT.out HNE.out, rfl⟩
        · have HD := Lib.hid hd
          have hd1 : (d == 0) = false := by simpa using hd
          have HN : Hid (vd ds1 = vd (d :: t)) := by show _ = _; rw [← strip_vd ds1, ← HST.out, strip_self hd]
          have HND := Lib.hid (nd_vd HIL.out hd)
          have HNP := Lib.hid (vd_pos HIL.out hd)
          have HBT := Lib.hid (show Bs W.heap.size wr _ _ from HBS.out (by simp))
          obtain ⟨T, hT⟩ : ∃ T, (t.length : Int) + 1 + e1 = T := ⟨_, rfl⟩
          have HT := Lib.hid hT
          have hT1 : -1000000001 ≤ T := by omega
          have hT2 : T ≤ 1000000000 + 1000001 := by omega
          clear hd HST HG HBS
          by_cases t1 : T < -100
          · have HRN : Hid (rnd (vd ds1).toNat e1 = some (0, 0)) := by show _ = _; rw [HN.out]; unfold rnd; rw [if_pos (.inr (by rw [HND.out]; have := HT.out; omega))]
            have hdt : decide (T < -100) = true := decide_eq_true t1
            go_wp2_with fail
            refine bodyPost_ret (v := .agg #[.int .i64 0, .int .i64 0]) (by simp [results, Tryz.results155, go_sem, r0, r1]) rfl ?_
            rw [HRN.out]
            refine ⟨by cases s <;> rfl, (HBX.out.setCell (p := ⟨w.heap.size + 1, 0, none⟩) (by simp) _).setCell (p := ⟨w.heap.size + 1, 1, none⟩) (by simp) _⟩
          · have hdt : decide (T < -100) = false := decide_eq_false t1
            by_cases t2 : T = -100
            · obtain rfl : T = -100 := t2
              obtain ⟨nv, hnv⟩ : ∃ nv, nearV (d :: t) 0 = nv := ⟨_, rfl⟩
              have hnv1 : nv ≤ 1 := by rw [← hnv]; exact near_le _ _
              rcases (show nv = 0 ∨ nv = 1 by omega) with rfl | rfl
              · have HNR : Hid (∀ w', Below wr.heap.size wr w' → Calls Tryz.prog 90 #[.slice (some a) (t.length + 1) c', .int .i64 0] w' fun e w'' => e = .returned (.int .i64 0) ∧ w' = w'') := fun w' hb => by
                  have := near_c (some a) c' (d :: t) 0 w' (HRW.out.below hb) hc' hm' HIL.out (by decide)
                  rw [hnv] at this
                  exact this
                have HRN : Hid (rnd (vd ds1).toNat e1 = some (0, 0)) := by
                  show _ = _
                  rw [HN.out]; unfold rnd
                  rw [if_neg (by rw [HND.out]; have := HT.out; have := HNP.out; omega), if_pos (by rw [HND.out]; have := HT.out; omega), HND.out]
                  rw [near_zero] at hnv
                  have hnv' := hnv
                  rw [List.length_cons] at hnv'
                  split at hnv' <;> first | (exfalso; omega) | (rename_i hh; first | rw [if_pos hh] | rw [if_neg hh])
                clear hnv
                have hw0 : IntKind.i64.wrap 0 = 0 := IntWalk.i64_in _ (by omega)
                have hw1 : IntKind.i64.wrap 100000000000 = 100000000000 := IntWalk.i64_in _ (by omega)
                have hw2 : IntKind.i64.wrap (-111) = -111 := IntWalk.i64_in _ (by omega)
                go_wp2_with fail
                go_region_with (first
                  | (go_at_call 90; (with_reducible refine (HNR.out _ ?_).mono ?_); (first | exact Below.refl _ _ | exact (Below.refl _ _).drew); rintro en w' ⟨rfl, rfl⟩)
                  | (go_at_call 202; (with_reducible refine (put_c s 0 0 _ (by decide) (by decide)).mono ?_); rintro en w3 ⟨rfl, hbz⟩; have hb3 := below_then' (Below.refl wr.heap.size wr).drew hbz; have q0 := cell_of_heap (heapB hb3 HXB.out) 0; have q1 := cell_of_heap (heapB hb3 HXB.out) 1; have y0 := free_of_heap (heapB hb3 HXB.out) 0; have y1 := free_of_heap (heapB hb3 HXB.out) 1; have HB3 := Lib.hid hb3; simp at q0 q1; clear hbz hb3))
                all_goals
                  go_wp2_with fail
                  refine bodyPost_ret (v := .agg #[.int .i64 (sgm s 0), .int .i64 0]) (by simp [results, Tryz.results155, go_sem, q0, q1]) rfl ?_
                  rw [HRN.out]
                  exact ⟨rfl, ((below_then' HBX.out HB3.out).setCell (p := ⟨w.heap.size + 1, 0, none⟩) (by simp) _).setCell (p := ⟨w.heap.size + 1, 1, none⟩) (by simp) _⟩
              · have HNR : Hid (∀ w', Below wr.heap.size wr w' → Calls Tryz.prog 90 #[.slice (some a) (t.length + 1) c', .int .i64 0] w' fun e w'' => e = .returned (.int .i64 1) ∧ w' = w'') := fun w' hb => by
                  have := near_c (some a) c' (d :: t) 0 w' (HRW.out.below hb) hc' hm' HIL.out (by decide)
                  rw [hnv] at this
                  exact this
                have HRN : Hid (rnd (vd ds1).toNat e1 = some (100000000000, (-111))) := by
                  show _ = _
                  rw [HN.out]; unfold rnd
                  rw [if_neg (by rw [HND.out]; have := HT.out; have := HNP.out; omega), if_pos (by rw [HND.out]; have := HT.out; omega), HND.out]
                  rw [near_zero] at hnv
                  have hnv' := hnv
                  rw [List.length_cons] at hnv'
                  split at hnv' <;> first | (exfalso; omega) | (rename_i hh; first | rw [if_pos hh] | rw [if_neg hh])
                clear hnv
                have hw0 : IntKind.i64.wrap 0 = 0 := IntWalk.i64_in _ (by omega)
                have hw1 : IntKind.i64.wrap 100000000000 = 100000000000 := IntWalk.i64_in _ (by omega)
                have hw2 : IntKind.i64.wrap (-111) = -111 := IntWalk.i64_in _ (by omega)
                go_wp2_with fail
                go_region_with (first
                  | (go_at_call 90; (with_reducible refine (HNR.out _ ?_).mono ?_); (first | exact Below.refl _ _ | exact (Below.refl _ _).drew); rintro en w' ⟨rfl, rfl⟩)
                  | (go_at_call 202; (with_reducible refine (put_c s 100000000000 (-111) _ (by decide) (by decide)).mono ?_); rintro en w3 ⟨rfl, hbz⟩; have hb3 := below_then' (Below.refl wr.heap.size wr).drew hbz; have q0 := cell_of_heap (heapB hb3 HXB.out) 0; have q1 := cell_of_heap (heapB hb3 HXB.out) 1; have y0 := free_of_heap (heapB hb3 HXB.out) 0; have y1 := free_of_heap (heapB hb3 HXB.out) 1; have HB3 := Lib.hid hb3; simp at q0 q1; clear hbz hb3))
                all_goals
                  go_wp2_with fail
                  refine bodyPost_ret (v := .agg #[.int .i64 (sgm s 100000000000), .int .i64 (-111)]) (by simp [results, Tryz.results155, go_sem, q0, q1]) rfl ?_
                  rw [HRN.out]
                  exact ⟨rfl, ((below_then' HBX.out HB3.out).setCell (p := ⟨w.heap.size + 1, 0, none⟩) (by simp) _).setCell (p := ⟨w.heap.size + 1, 1, none⟩) (by simp) _⟩
            · have hdu : (T == -100) = false := by simpa using t2
              obtain ⟨n0, hn0⟩ : ∃ n0, 12 - (t.length + 1) = n0 := ⟨_, rfl⟩
              obtain ⟨p, hp⟩ : ∃ p, (d :: t) ++ List.replicate n0 0 = p := ⟨_, rfl⟩
              obtain ⟨hip, hpl, hpm⟩ := man12_of HIL.out HD.out (p := p) (by rw [hn0, hp])
              obtain ⟨M, hM⟩ : ∃ M, man12 (vd (d :: t)).toNat = M := ⟨_, rfl⟩
              obtain ⟨hM1, hM2⟩ := man12_rng HNP.out
              rw [hM] at hpm hM1 hM2
              have HRN : Hid (rnd (vd ds1).toNat e1 = fit M (T - 12)) := by
                show _ = _
                rw [HN.out]; unfold rnd
                rw [if_neg (by rw [HND.out]; have := HT.out; have := HNP.out; omega), if_neg (by rw [HND.out]; have := HT.out; omega), HND.out, hM]
                congr 1
                have := HT.out; omega
              have HIP := Lib.hid hip; have HPM := Lib.hid hpm; have HP := Lib.hid hp
              have HPL := Lib.hid (show p.length ≤ 1000013 from by rw [← hp, List.length_append, List.length_replicate, List.length_cons]; omega)
              clear hip hpm hM hp
              have hn1 : n0 ≤ 12 := by omega
              have HN0 := Lib.hid hn0
              have HX0 := Lib.hid x00
              clear hn0 t1 t2 hll
              obtain ⟨V, rfl⟩ : ∃ V : World, V = wr := ⟨_, rfl⟩
              go_wp2_with fail
              clear hcell x02
              go_loopg [3] n0 (fun g lv wr => ∃ (l : List Int) (A2 : Option Addr) (c2 : Nat), lv = .slice A2 l.length c2 ∧ g ≤ n0 ∧ Hid (l = (d :: t) ++ List.replicate (n0 - g) 0) ∧ Hid (Bs W.heap.size wr lv l) ∧ Hid (Below W.heap.size V wr))
              case atStart => exact ⟨d :: t, some a, c', rfl, Nat.le_refl _, by show _ = _; rw [Nat.sub_self]; simp, HBT.out, Below.refl _ _⟩
              case round =>
                obtain ⟨l, A2, c2, rfl, hg, HL, HBS2, HB2⟩ := hrel
                obtain ⟨A3, c3, e3, hc3, hm3, hrow3⟩ := HBS2.out.row
                obtain ⟨rfl, rfl⟩ : A2 = A3 ∧ c2 = c3 := ⟨(Value.slice.inj e3).1, (Value.slice.inj e3).2.2⟩
                clear e3
                by_cases hg0 : gk = 0
                · subst hg0
                  obtain rfl : l = p := by rw [HL.out, Nat.sub_zero, HP.out]
                  have HROW := Lib.hid hrow3
                  have hpl2 : 12 ≤ l.length := hpl
                  have HPL2 := Lib.hid hpl
                  have hpl3 : l.length ≤ 1000013 := HPL.out
                  obtain ⟨a2, rfl⟩ : ∃ a2, A2 = some a2 := by obtain ⟨a2, e, -⟩ := hrow3 0 (by omega); exact ⟨a2, e⟩
                  have HBV := Lib.hid (HBX.out.trans (HB2.out.mono (show w.heap.size ≤ W.heap.size by have := HS2.out; omega)))
                  have HXB3 : Hid (wr.heap[w.heap.size + 1]? = _) := (HB2.out.block _ (by have := HS2.out; omega)).trans HXB.out
                  have b00 : wr.cell? ⟨w.heap.size, 0, none⟩ = some (.bool s) := (World.cell?_of_block (w := V) (a := ⟨w.heap.size, 0, none⟩) (HB2.out.block _ (by have := HS2.out; show w.heap.size < _; omega))).trans HX0.out
                  clear hrow3 hg
                  go_wp2_with fail
                  obtain ⟨nv, hnv⟩ : ∃ nv, nearV (l.drop 12) (vd (l.take 12)).toNat = nv := ⟨_, rfl⟩
                  have hnv1 : nv ≤ 1 := by rw [← hnv]; exact near_le _ _
                  have HNV := Lib.hid hnv
                  clear hnv
                  go_loopg [5, 67] 12 (fun g mv iv wr3 => ∃ (k : Nat) (m : Int), iv = .int .i64 (k : Int) ∧ k + g = 12 ∧ mv = .int .i64 m ∧ Hid (m = vd (l.take k)) ∧ 0 ≤ m ∧ m ≤ 999999999999 ∧ wr3 = wr)
                  case atStart => exact ⟨0, 0, rfl, rfl, rfl, by show _ = _; simp [vd], by omega, by omega, rfl⟩
                  case round =>
                    obtain ⟨k, m, rfl, hk, rfl, HM, hm0, hm9, rfl⟩ := hrel
                    have HK := Lib.hid hk
                    by_cases hk12 : k < 12
                    · have hkl : k < l.length := by omega
                      obtain ⟨a9, e9, hcell⟩ := HROW.out k hkl
                      cases e9
                      have hin := HIP.out.at_ (by decide) k
                      rw [List.getD_eq_getElem?_getD] at hin
                      have HT2 := Lib.hid (drop_take hkl)
                      have hvl := vd_lt (HIP.out.take (k + 1))
                      have hvn := vd_nonneg (HIP.out.take (k + 1))
                      obtain ⟨x, hx⟩ : ∃ x, l[k]?.getD 0 = x := ⟨_, rfl⟩
                      rw [hx] at hcell hin HT2
                      have hin9 : x < 10 := hin.2
                      have hin0 := hin.1
                      have HST : Hid (10 * m + x = vd (l.take (k + 1))) := by show _ = _; rw [HT2.out, vd_snoc, HM.out]
                      have hlim : vd (l.take (k + 1)) < 1000000000000 := by
                        rw [List.length_take, show min (k + 1) l.length = k + 1 by omega] at hvl
                        have hpw := pow_mono' (b := 10) (i := k + 1) (j := 12) (by decide) (by omega)
                        simp only [Int.cast_ofNat_Int] at hpw
                        have hpe : (10 : Int) ^ 12 = 1000000000000 := by decide
                        omega
                      have hb1 : 10 * m + x ≤ 999999999999 := by rw [HST.out]; omega
                      have hb2 : 0 ≤ 10 * m + x := by rw [HST.out]; omega
                      have hwr : IntKind.i64.wrap x = x := IntWalk.i64_in _ (by omega)
                      clear hx hin hvl hvn hlim hk
                      go_wp2_with fail
                      go_roundg (gk - 1)
                      case measure => have := HK.out; omega
                      case rel => exact ⟨k + 1, 10 * m + x, by go_num, by have := HK.out; omega, rfl, HST.out, hb2, hb1, rfl⟩
                    · obtain rfl : k = 12 := by omega
                      obtain ⟨q, rfl⟩ : ∃ q : Nat, m = (q : Int) := ⟨m.toNat, by omega⟩
                      have HQ : Hid ((vd (l.take 12)).toNat = q) := by show _ = _; rw [← HM.out]; rfl
                      have HQM : Hid (q + nv = M) := by have := HPM.out; rw [HNV.out, HQ.out] at this; exact this
                      have hqm : (q : Int) + (nv : Int) = (M : Int) := by have := HQM.out; omega
                      clear hk hk12
                      by_cases hc12 : c2 = 12
                      · subst hc12
                        have hl12 : l.length = 12 := by omega
                        have HN1 : Hid (Calls Tryz.prog 90 #[.slice (some a2) 0 0, .int .i64 (q : Int)] wr fun e w' => e = .returned (.int .i64 (nv : Int)) ∧ wr = w') := by
                          have hnil : l.drop 12 = [] := List.drop_eq_nil_of_le (by omega)
                          have h1 := near_c (some a2) 0 [] q wr Row.nil (Nat.le_refl _) (by omega) (InR.nil 10) (by omega)
                          have h2 : nearV [] q = nv := by have := HNV.out; rw [HQ.out, hnil] at this; exact this
                          rw [h2] at h1
                          exact h1
                        clear hl12
                        by_cases hMM : M = 1000000000000
                        · have hx1 : ((M : Int) == 1000000000000) = true := by rw [hMM]; rfl
                          by_cases hX : 88 < T - 12 + 1
                          · have HFIT : Hid (fit M (T - 12) = none) := by show _ = _; unfold fit; rw [if_pos hMM, if_pos hX]
                            clear hMM
                            go_wp2_with (go_at_call 90; (with_reducible refine (HN1.out).mono ?_); rintro en w' ⟨rfl, rfl⟩)
                            rw [HRN.out, HFIT.out]
                            exact ⟨rfl, rfl, HBV.out⟩
                          · have HFIT : Hid (fit M (T - 12) = some (100000000000, T - 12 + 1)) := by show _ = _; unfold fit; rw [if_pos hMM, if_neg hX]
                            clear hMM
                            go_wp2_with (first | (go_at_call 90; (with_reducible refine (HN1.out).mono ?_); rintro en w' ⟨rfl, rfl⟩) | (go_at_call 202; (with_reducible refine (put_c s 100000000000 (T - 12 + 1) _ (by omega) (by omega)).mono ?_); rintro en w3 ⟨rfl, hbz⟩; have hb3 := hbz; have q0 := cell_of_heap (heapB hb3 HXB3.out) 0; have q1 := cell_of_heap (heapB hb3 HXB3.out) 1; have y0 := free_of_heap (heapB hb3 HXB3.out) 0; have y1 := free_of_heap (heapB hb3 HXB3.out) 1; have HB3 := Lib.hid hb3; simp at q0 q1; clear hbz hb3))
                            refine bodyPost_ret (v := .agg #[.int .i64 (sgm s 100000000000), .int .i64 ((T - 12 + 1))]) (by simp [results, Tryz.results155, go_sem, q0, q1]) rfl ?_
                            rw [HRN.out, HFIT.out]
                            exact ⟨rfl, ((below_then' HBV.out HB3.out).setCell (p := ⟨w.heap.size + 1, 0, none⟩) (by simp) _).setCell (p := ⟨w.heap.size + 1, 1, none⟩) (by simp) _⟩
                        · have hx1 : ((M : Int) == 1000000000000) = false := by rw [beq_eq_false_iff_ne]; omega
                          by_cases hX : 88 < T - 12
                          · have HFIT : Hid (fit M (T - 12) = none) := by show _ = _; unfold fit; rw [if_neg hMM, if_pos hX]
                            clear hMM
                            go_wp2_with (go_at_call 90; (with_reducible refine (HN1.out).mono ?_); rintro en w' ⟨rfl, rfl⟩)
                            rw [HRN.out, HFIT.out]
                            exact ⟨rfl, rfl, HBV.out⟩
                          · have HFIT : Hid (fit M (T - 12) = some (M, T - 12)) := by show _ = _; unfold fit; rw [if_neg hMM, if_neg hX]
                            clear hMM
                            go_wp2_with (first | (go_at_call 90; (with_reducible refine (HN1.out).mono ?_); rintro en w' ⟨rfl, rfl⟩) | (go_at_call 202; (with_reducible refine (put_c s (M : Int) (T - 12) _ (by omega) (by omega)).mono ?_); rintro en w3 ⟨rfl, hbz⟩; have hb3 := hbz; have q0 := cell_of_heap (heapB hb3 HXB3.out) 0; have q1 := cell_of_heap (heapB hb3 HXB3.out) 1; have y0 := free_of_heap (heapB hb3 HXB3.out) 0; have y1 := free_of_heap (heapB hb3 HXB3.out) 1; have HB3 := Lib.hid hb3; simp at q0 q1; clear hbz hb3))
                            refine bodyPost_ret (v := .agg #[.int .i64 (sgm s (M : Int)), .int .i64 ((T - 12))]) (by simp [results, Tryz.results155, go_sem, q0, q1]) rfl ?_
                            rw [HRN.out, HFIT.out]
                            exact ⟨rfl, ((below_then' HBV.out HB3.out).setCell (p := ⟨w.heap.size + 1, 0, none⟩) (by simp) _).setCell (p := ⟨w.heap.size + 1, 1, none⟩) (by simp) _⟩
                      · have HN1 : Hid (Calls Tryz.prog 90 #[.slice (some ⟨a2.block, a2.off + 12, none⟩) (l.length - 12) (c2 - 12), .int .i64 (q : Int)] wr fun e w' => e = .returned (.int .i64 (nv : Int)) ∧ wr = w') := by
                          have h1 := near_c (some ⟨a2.block, a2.off + 12, none⟩) (c2 - 12) (l.drop 12) q wr (row_drop (by decide) HROW.out) (by rw [List.length_drop]; omega) (by omega) (HIP.out.drop 12) (by omega)
                          have h2 : nearV (l.drop 12) q = nv := by have := HNV.out; rw [HQ.out] at this; exact this
                          rw [h2, List.length_drop] at h1
                          exact h1
                        by_cases hMM : M = 1000000000000
                        · have hx1 : ((M : Int) == 1000000000000) = true := by rw [hMM]; rfl
                          by_cases hX : 88 < T - 12 + 1
                          · have HFIT : Hid (fit M (T - 12) = none) := by show _ = _; unfold fit; rw [if_pos hMM, if_pos hX]
                            clear hMM
                            go_wp2_with (go_at_call 90; (with_reducible refine (HN1.out).mono ?_); rintro en w' ⟨rfl, rfl⟩)
                            rw [HRN.out, HFIT.out]
                            exact ⟨rfl, rfl, HBV.out⟩
                          · have HFIT : Hid (fit M (T - 12) = some (100000000000, T - 12 + 1)) := by show _ = _; unfold fit; rw [if_pos hMM, if_neg hX]
                            clear hMM
                            go_wp2_with (first | (go_at_call 90; (with_reducible refine (HN1.out).mono ?_); rintro en w' ⟨rfl, rfl⟩) | (go_at_call 202; (with_reducible refine (put_c s 100000000000 (T - 12 + 1) _ (by omega) (by omega)).mono ?_); rintro en w3 ⟨rfl, hbz⟩; have hb3 := hbz; have q0 := cell_of_heap (heapB hb3 HXB3.out) 0; have q1 := cell_of_heap (heapB hb3 HXB3.out) 1; have y0 := free_of_heap (heapB hb3 HXB3.out) 0; have y1 := free_of_heap (heapB hb3 HXB3.out) 1; have HB3 := Lib.hid hb3; simp at q0 q1; clear hbz hb3))
                            refine bodyPost_ret (v := .agg #[.int .i64 (sgm s 100000000000), .int .i64 ((T - 12 + 1))]) (by simp [results, Tryz.results155, go_sem, q0, q1]) rfl ?_
                            rw [HRN.out, HFIT.out]
                            exact ⟨rfl, ((below_then' HBV.out HB3.out).setCell (p := ⟨w.heap.size + 1, 0, none⟩) (by simp) _).setCell (p := ⟨w.heap.size + 1, 1, none⟩) (by simp) _⟩
                        · have hx1 : ((M : Int) == 1000000000000) = false := by rw [beq_eq_false_iff_ne]; omega
                          by_cases hX : 88 < T - 12
                          · have HFIT : Hid (fit M (T - 12) = none) := by show _ = _; unfold fit; rw [if_neg hMM, if_pos hX]
                            clear hMM
                            go_wp2_with (go_at_call 90; (with_reducible refine (HN1.out).mono ?_); rintro en w' ⟨rfl, rfl⟩)
                            rw [HRN.out, HFIT.out]
                            exact ⟨rfl, rfl, HBV.out⟩
                          · have HFIT : Hid (fit M (T - 12) = some (M, T - 12)) := by show _ = _; unfold fit; rw [if_neg hMM, if_neg hX]
                            clear hMM
                            go_wp2_with (first | (go_at_call 90; (with_reducible refine (HN1.out).mono ?_); rintro en w' ⟨rfl, rfl⟩) | (go_at_call 202; (with_reducible refine (put_c s (M : Int) (T - 12) _ (by omega) (by omega)).mono ?_); rintro en w3 ⟨rfl, hbz⟩; have hb3 := hbz; have q0 := cell_of_heap (heapB hb3 HXB3.out) 0; have q1 := cell_of_heap (heapB hb3 HXB3.out) 1; have y0 := free_of_heap (heapB hb3 HXB3.out) 0; have y1 := free_of_heap (heapB hb3 HXB3.out) 1; have HB3 := Lib.hid hb3; simp at q0 q1; clear hbz hb3))
                            refine bodyPost_ret (v := .agg #[.int .i64 (sgm s (M : Int)), .int .i64 ((T - 12))]) (by simp [results, Tryz.results155, go_sem, q0, q1]) rfl ?_
                            rw [HRN.out, HFIT.out]
                            exact ⟨rfl, ((below_then' HBV.out HB3.out).setCell (p := ⟨w.heap.size + 1, 0, none⟩) (by simp) _).setCell (p := ⟨w.heap.size + 1, 1, none⟩) (by simp) _⟩
                · obtain ⟨g, rfl⟩ : ∃ g, gk = g + 1 := ⟨gk - 1, by omega⟩
                  have hl12 : l.length < 12 := by
                    have h1 := congrArg List.length HL.out
                    rw [List.length_append, List.length_replicate, List.length_cons] at h1
                    have := HN0.out
                    omega
                  have HEQ : Hid (l ++ [0] = (d :: t) ++ List.replicate (n0 - g) 0) := by
                    show _ = _
                    rw [HL.out, show n0 - g = (n0 - (g + 1)) + 1 by omega, List.replicate_succ', List.append_assoc]
                  clear hrow3
                  go_wp2_with (at_builtin; refine wp_bpush rfl _ _ rfl rfl HBS2.out 0 rfl (by omega) ?_; intro v' w' hbs hbl; obtain ⟨A9, c9, rfl, -, -, -⟩ := hbs.row; have HBS3 := Lib.hid hbs; have HBL := Lib.hid hbl; clear hbs hbl)
                  go_roundg g
                  case measure => omega
                  case rel => exact ⟨l ++ [0], A9, c9, by rw [List.length_append]; rfl, by omega, HEQ.out, by have h3 := HBS3.out; rw [List.length_append] at h3; exact h3, HB2.out.trans HBL.out⟩
end Go.Proofs.YtekbfommnmikbaaGreatDoor
/- Package real: rounded: what has panicked becomes an error. -/
namespace Go.Proofs.YtekbfommnmikbaaGreatDoor
set_option linter.unusedVariables false
set_option linter.unusedSimpArgs false
open Go.RowKit Go.Shelf Go.Proofs

theorem rec_idle (p q : Addr) (w : World) :
    CallsD Tryz.prog 154 #[.pointer (some p), .pointer (some q)] .returning w fun e u' w' => e = .returned (.tuple #[]) ∧ u' = .returning ∧ w' = w := by
  refine callsD_of_wpS Tryz.func154 rfl fun c₀ cs hu => ?_
  apply wpS_seq
  apply wpS_region
  simp [wpOpsS, go_sem, recoverD, hu, Tryz.ntmps154, Exit.thenS]
  refine wpS_of_wp ?_
  simp only [Array.replicate_succ, Array.replicate_zero, List.push_toArray, List.append_toArray, List.nil_append, List.cons_append, List.setIfInBounds_toArray, List.set_cons_zero, List.set_cons_succ]
  go_wp2
  cases c₀
  simp_all [bodyPostS, results, Tryz.results154]

set_option maxRecDepth 100000 in
set_option maxHeartbeats 1000000 in
theorem rec_panic (P Q : Nat) (m x k : Int) (w : World) (hP : w.heap[P]? = some (.cells #[.int .i64 m, .int .i64 x] 23 (0, 0))) (hQ : w.heap[Q]? = some (.cells #[.int .i64 k] 24 (0, 0))) (hPQ : P ≠ Q) :
    CallsD Tryz.prog 154 #[.pointer (some ⟨P, 0, none⟩), .pointer (some ⟨Q, 0, none⟩)] (.panicking bigChain) w fun e u' w' => e = .returned (.tuple #[]) ∧ u' = .panicking [{ v := .iface 146 (.agg #[]), recovered := true }] ∧ w' = (((w.alloc (.cells #[] 146)).setCell ⟨P, 0, none⟩ (.int .i64 0)).setCell ⟨P, 1, none⟩ (.int .i64 0)).setCell ⟨Q, 0, none⟩ (.int .i64 3) := by
  have hta : ∀ (xT : TypeId) (w : World), (Instr.typeAssert (.iface 146 (.agg #[])) xT 146 true).run Tryz.prog w = .ok (.tuple #[.agg #[], .bool true]) w := fun xT w => by rfl
  have hP' := heap_old (.cells #[] 146) hP
  have hQ' := heap_old (.cells #[] 146) hQ
  have c0 := cell_of_heap hP' 0; have c1 := cell_of_heap hP' 1; have d0 := cell_of_heap hQ' 0
  have f0 := free_of_heap hP' 0; have f1 := free_of_heap hP' 1; have g0 := free_of_heap hQ' 0
  simp at c0 c1 d0
  have d1 := set_far (a := ⟨P, 0, none⟩) (.int .i64 0) hPQ d0
  clear hP hQ hP' hQ' hPQ
  unfold bigChain
  refine callsD_of_wpS Tryz.func154 rfl fun c₀ cs hu => ?_
  apply wpS_seq
  apply wpS_region
  simp [wpOpsS, go_sem, recoverD, hu, Tryz.ntmps154, Exit.thenS]
  refine wpS_of_wp ?_
  have HU := Lib.hid hu
  clear hu
  simp only [Array.replicate_succ, Array.replicate_zero, List.push_toArray, List.append_toArray, List.nil_append, List.cons_append, List.setIfInBounds_toArray, List.set_cons_zero, List.set_cons_succ]
  go_wp2
  have hu := HU.out
  clear hta c0 c1 d0 d1 f0 f1 g0 HU
  cases c₀
  simp_all [bodyPostS, results, Tryz.results154]

/-- What rounded returns. -/
def resR (s : Bool) : Option (Nat × Int) → Value
  | some (m, x) => .tuple #[.agg #[.int .i64 (sgm s m), .int .i64 x], .int .i64 0]
  | none => .tuple #[.agg #[.int .i64 0, .int .i64 0], .int .i64 3]
theorem bx3h (w : World) (a0 a1 a2 : Array Value) (t0 t1 t2 : TypeId) : ∃ W, ((w.alloc (.cells a0 t0)).alloc (.cells a1 t1)).alloc (.cells a2 t2) = W ∧ W.heap[w.heap.size]? = some (.cells a0 t0 (0, 0)) ∧ W.heap[w.heap.size + 1]? = some (.cells a1 t1 (0, 0)) ∧ W.heap[w.heap.size + 2]? = some (.cells a2 t2 (0, 0)) ∧ Below w.heap.size w W :=
  ⟨_, rfl, heap_old _ (heap_old _ (heap_alloc_new _ _)), heap_old _ (heap_new' _ _ _ (by simp)), heap_new' _ _ _ (by simp), (((Below.refl _ _).alloc (Nat.le_refl _) _).alloc (by simp) _).alloc (by simp; omega) _⟩

set_option maxRecDepth 100000 in
set_option maxHeartbeats 2000000 in
theorem rounded_c (s : Bool) (A : Option Addr) (c : Nat) (ds : List Int) (e : Int) (more : Bool) (w : World) (hr : Row .u8 w A ds) (hc : ds.length ≤ c) (hm : c ≤ 9223372036854775807) (hi : InR 10 ds) (hl : ds.length ≤ 1000000) (he : -1000000000 ≤ e) (he2 : e ≤ 1000000000) :
    Calls Tryz.prog 88 #[.agg #[.bool s, .slice A ds.length c, .int .i64 e, .bool more]] w fun en w' => en = .returned (resR s (rnd (vd (withMore ds more)).toNat (expMore e more))) ∧ Below w.heap.size w w' := by
  obtain ⟨W, hW, k0, k1, k2, hbel⟩ := bx3h w #[.bool s, .slice A ds.length c, .int .i64 e, .bool more] #[.int .i64 0, .int .i64 0] #[.int .i64 0] 95 23 24
  have c00 := cell_of_heap k0 0; have c01 := cell_of_heap k0 1; have c02 := cell_of_heap k0 2; have c03 := cell_of_heap k0 3
  simp at c00 c01 c02 c03
  have HR := Lib.hid (hr.below hbel)
  have HK1 := Lib.hid k1; have HK2 := Lib.hid k2; have HBEL := Lib.hid hbel
  have HI := Lib.hid hi
  obtain ⟨o, ho⟩ : ∃ o, rnd (vd (withMore ds more)).toNat (expMore e more) = o := ⟨_, rfl⟩
  rw [ho]
  have HO := Lib.hid ho
  clear hr k0 k1 k2 hbel hi ho
  go_enter_defers Tryz.func88, Tryz.ntmps88
  cases o with
  | none =>
    go_wp2_with (go_at_call 155; (with_reducible refine (round_c s A c ds e more _ HR.out hc hm HI.out hl he he2).mono ?_); rintro en W2 ⟨hen, hbz⟩; rw [HO.out] at hen; have hen2 : en = .panicked bigChain := hen; subst hen2; have HB2 := Lib.hid hbz; clear hbz hen)
    have k1 := heapB HB2.out HK1.out
    have k2 := heapB HB2.out HK2.out
    refine leaves_cons (f := 154) (args := #[.pointer (some ⟨w.heap.size + 1, 0, none⟩), .pointer (some ⟨w.heap.size + 2, 0, none⟩)]) (by simp) (by simp [go_sem]) ?_
    refine (rec_panic (w.heap.size + 1) (w.heap.size + 2) 0 0 0 _ k1 k2 (by omega)).mono ?_
    rintro en u' w'' ⟨rfl, rfl, rfl⟩
    have j1 := putB (putB (heap_old (.cells #[] 146) k1) 0 (.int .i64 0)) 1 (.int .i64 0)
    have j1' := (Below.heap_setCell (((W2.alloc (.cells #[] 146)).setCell ⟨w.heap.size + 1, 0, none⟩ (.int .i64 0)).setCell ⟨w.heap.size + 1, 1, none⟩ (.int .i64 0)) ⟨w.heap.size + 2, 0, none⟩ (.int .i64 3) (w.heap.size + 1) (by simp)).trans j1
    have j2 := putB ((Below.heap_setCell ((W2.alloc (.cells #[] 146)).setCell ⟨w.heap.size + 1, 0, none⟩ (.int .i64 0)) ⟨w.heap.size + 1, 1, none⟩ (.int .i64 0) (w.heap.size + 2) (by simp)).trans ((Below.heap_setCell (W2.alloc (.cells #[] 146)) ⟨w.heap.size + 1, 0, none⟩ (.int .i64 0) (w.heap.size + 2) (by simp)).trans (heap_old _ k2))) 0 (.int .i64 3)
    have r0 := cell_of_heap j1' 0; have r1 := cell_of_heap j1' 1; have r2 := cell_of_heap j2 0
    simp at r0 r1 r2
    have hbl : Below w.heap.size w ((((W2.alloc (.cells #[] 146)).setCell ⟨w.heap.size + 1, 0, none⟩ (.int .i64 0)).setCell ⟨w.heap.size + 1, 1, none⟩ (.int .i64 0)).setCell ⟨w.heap.size + 2, 0, none⟩ (.int .i64 3)) := by
      have h0 := below_then' HBEL.out HB2.out
      exact (((h0.alloc h0.size _).setCell (p := ⟨w.heap.size + 1, 0, none⟩) (by simp) _).setCell (p := ⟨w.heap.size + 1, 1, none⟩) (by simp) _).setCell (p := ⟨w.heap.size + 2, 0, none⟩) (by simp) _
    simp [Leaves, settle, results, Tryz.results88, go_sem, r0, r1, r2]
    exact ⟨rfl, hbl⟩
  | some p =>
    obtain ⟨m, x⟩ := p
    go_wp2_with (go_at_call 155; (with_reducible refine (round_c s A c ds e more _ HR.out hc hm HI.out hl he he2).mono ?_); rintro en W2 ⟨hen, hbz⟩; rw [HO.out] at hen; have hen2 : en = .returned (.agg #[.int .i64 (sgm s m), .int .i64 x]) := hen; subst hen2; have k1 := heapB hbz HK1.out; have k2 := heapB hbz HK2.out; have b0 := cell_of_heap k1 0; have b1 := cell_of_heap k1 1; have b2 := cell_of_heap k2 0; have f0 := free_of_heap k1 0; have f1 := free_of_heap k1 1; have f2 := free_of_heap k2 0; have HB2 := Lib.hid hbz; have HX1 := Lib.hid k1; have HX2 := Lib.hid k2; simp at b0 b1 b2; clear hbz hen k1 k2)
    refine leaves_cons (f := 154) (args := #[.pointer (some ⟨w.heap.size + 1, 0, none⟩), .pointer (some ⟨w.heap.size + 2, 0, none⟩)]) (by simp) (by simp [go_sem]) ?_
    refine (rec_idle ⟨w.heap.size + 1, 0, none⟩ ⟨w.heap.size + 2, 0, none⟩ _).mono ?_
    rintro en u' w'' ⟨rfl, rfl, rfl⟩
    have j1 := putB (putB HX1.out 0 (.int .i64 (sgm s m))) 1 (.int .i64 x)
    have j1' := (Below.heap_setCell ((W2.setCell ⟨w.heap.size + 1, 0, none⟩ (.int .i64 (sgm s m))).setCell ⟨w.heap.size + 1, 1, none⟩ (.int .i64 x)) ⟨w.heap.size + 2, 0, none⟩ (.int .i64 0) (w.heap.size + 1) (by simp)).trans j1
    have j2 := putB ((Below.heap_setCell (W2.setCell ⟨w.heap.size + 1, 0, none⟩ (.int .i64 (sgm s m))) ⟨w.heap.size + 1, 1, none⟩ (.int .i64 x) (w.heap.size + 2) (by simp)).trans ((Below.heap_setCell W2 ⟨w.heap.size + 1, 0, none⟩ (.int .i64 (sgm s m)) (w.heap.size + 2) (by simp)).trans HX2.out)) 0 (.int .i64 0)
    have r0 := cell_of_heap j1' 0; have r1 := cell_of_heap j1' 1; have r2 := cell_of_heap j2 0
    simp at r0 r1 r2
    have hbl : Below w.heap.size w (((W2.setCell ⟨w.heap.size + 1, 0, none⟩ (.int .i64 (sgm s m))).setCell ⟨w.heap.size + 1, 1, none⟩ (.int .i64 x)).setCell ⟨w.heap.size + 2, 0, none⟩ (.int .i64 0)) := by
      have h0 := below_then' HBEL.out HB2.out
      exact ((h0.setCell (p := ⟨w.heap.size + 1, 0, none⟩) (by simp) _).setCell (p := ⟨w.heap.size + 1, 1, none⟩) (by simp) _).setCell (p := ⟨w.heap.size + 2, 0, none⟩) (by simp) _
    simp [Leaves, settle, results, Tryz.results88, go_sem, r0, r1, r2]
    exact ⟨rfl, hbl⟩
end Go.Proofs.YtekbfommnmikbaaGreatDoor
/- Package real: the amount of a real. -/
namespace Go.Proofs.YtekbfommnmikbaaGreatDoor
set_option linter.unusedVariables false
set_option linter.unusedSimpArgs false
open Go.RowKit Go.Shelf Go.Proofs
attribute [local go_sem ↓] Go.wp_at_zero Go.wp_at_succ

theorem belowT {V w w' : World} (h : Below V.heap.size V w) (hb : Below w.heap.size w w') : Below V.heap.size V w' := h.trans (hb.mono h.size)
theorem belowA {V w : World} (h : Below V.heap.size V w) (o : Obj) : Below V.heap.size V (w.alloc o) := h.alloc h.size o

/-- v is an amount: the sign, digits, an exponent, more. -/
def Amt (w : World) (v : Value) (s : Bool) (ds : List Int) (e : Int) (more : Bool) : Prop := ∃ A c, v = .agg #[.bool s, .slice A ds.length c, .int .i64 e, .bool more] ∧ ds.length ≤ c ∧ c ≤ 9223372036854775807 ∧ Row .u8 w A ds
theorem Amt.below {w w' : World} {v : Value} {s more : Bool} {ds : List Int} {e : Int} (h : Amt w v s ds e more) (hb : Below w.heap.size w w') : Amt w' v s ds e more := by
  obtain ⟨A, c, h1, h2, h3, h4⟩ := h
  exact ⟨A, c, h1, h2, h3, h4.below hb⟩
/-- A call returns an amount, its digits in an array that is new (or nowhere). -/
def AmtP (s : Bool) (ds : List Int) (e : Int) (more : Bool) (w : World) (en : Ending) (w' : World) : Prop := ∃ v, en = .returned v ∧ Amt w' v s ds e more ∧ Below w.heap.size w w'
theorem rounded_a {v : Value} {s more : Bool} {ds : List Int} {e : Int} {w : World} (h : Amt w v s ds e more) (hi : InR 10 ds) (hl : ds.length ≤ 1000000) (he : -1000000000 ≤ e) (he2 : e ≤ 1000000000) :
    Calls Tryz.prog 88 #[v] w fun en w' => en = .returned (resR s (rnd (vd (withMore ds more)).toNat (expMore e more))) ∧ Below w.heap.size w w' := by
  obtain ⟨A, c, rfl, h2, h3, h4⟩ := h
  exact rounded_c s A c ds e more w h4 h2 h3 hi hl he he2

/-- An amount stored into a box. -/
theorem amt_put {w : World} {B n c : Nat} {A : Option Addr} {s more : Bool} {e : Int} {z0 z1 z2 z3 : Value} {t : TypeId} (h : w.heap[B]? = some (.cells #[z0, z1, z2, z3] t (0, 0))) :
    ∃ F, (((w.setCell ⟨B, 0, none⟩ (.bool s)).setCell ⟨B, 1, none⟩ (.slice A n c)).setCell ⟨B, 2, none⟩ (.int .i64 e)).setCell ⟨B, 3, none⟩ (.bool more) = F ∧ F.heap[B]? = some (.cells #[.bool s, .slice A n c, .int .i64 e, .bool more] t (0, 0)) ∧ (∀ k w0, k ≤ B → Below k w0 w → Below k w0 F) ∧ (∀ g, g ≠ B → F.heap[g]? = w.heap[g]?) := by
  have h1 := putB h 0 (.bool s)
  have h2 := putB h1 1 (.slice A n c)
  have h3 := putB h2 2 (.int .i64 e)
  have h4 := putB h3 3 (.bool more)
  refine ⟨_, rfl, by simpa using h4, fun k w0 hk hb => (((hb.setCell (p := ⟨B, 0, none⟩) hk _).setCell (p := ⟨B, 1, none⟩) hk _).setCell (p := ⟨B, 2, none⟩) hk _).setCell (p := ⟨B, 3, none⟩) hk _, fun g hg => ?_⟩
  rw [Below.heap_setCell _ _ _ _ hg, Below.heap_setCell _ _ _ _ hg, Below.heap_setCell _ _ _ _ hg, Below.heap_setCell _ _ _ _ hg]
theorem row_keep {k : IntKind} {w F : World} {A : Option Addr} {xs : List Int} {B n c k0 : Nat} (h : Row k w A xs) (hf : FromB k0 (.slice A n c)) (hk : B < k0) (hF : ∀ g, g ≠ B → F.heap[g]? = w.heap[g]?) : Row k F A xs :=
  h.same fun a ha => hF _ (by have := hf a.block (by rw [ha]; rfl); omega)

set_option maxRecDepth 100000 in
set_option maxHeartbeats 2000000 in
theorem amountOf_c (m x : Int) (w : World) (hm : m.natAbs < 10 ^ 18) : Calls Tryz.prog 87 #[.agg #[.int .i64 m, .int .i64 x]] w (AmtP (decide (m < 0)) (dg 10 m.natAbs).reverse x false w) := by
  obtain ⟨W, hW, k0, k1, hbel, hsz⟩ := bx2h w #[.int .i64 m, .int .i64 x] #[.bool false, .slice none 0 0, .int .i64 0, .bool false] 23 95
  have c00 := cell_of_heap k0 0; have c01 := cell_of_heap k0 1
  simp at c00 c01
  have HK0 := Lib.hid k0; have HK1 := Lib.hid k1; have HBEL := Lib.hid hbel; have HSZ := Lib.hid hsz
  have HM := Lib.hid hm
  have hm0 : -9223372036854775807 ≤ m := by omega
  have hm1 : m ≤ 9223372036854775807 := by omega
  obtain ⟨N, hN⟩ : ∃ N, m.natAbs = N := ⟨_, rfl⟩
  rw [hN] at HM ⊢
  have HN := Lib.hid hN
  obtain ⟨ds, hds⟩ : ∃ ds, (dg 10 N).reverse = ds := ⟨_, rfl⟩
  rw [hds]
  have HDS := Lib.hid hds
  obtain ⟨s, hs⟩ : ∃ s, decide (m < 0) = s := ⟨_, rfl⟩
  rw [hs]
  have hsz2 : w.heap.size + 1 < W.heap.size := by omega
  have HSS : Hid (∀ w', Bel (w.heap.size + 1) W w' → w'.cell? ⟨w.heap.size, 0, none⟩ = some (.int .i64 m) ∧ w'.cell? ⟨w.heap.size, 1, none⟩ = some (.int .i64 x) ∧ Bel (w.heap.size + 1) W w') := fun w' h => ⟨(h.to_.cell (p := ⟨w.heap.size, 0, none⟩) (by simp)).trans c00, (h.to_.cell (p := ⟨w.heap.size, 1, none⟩) (by simp)).trans c01, h⟩
  have hbl := Bel.refl (w.heap.size + 1) W (by omega)
  clear k0 k1 hbel hsz hm hN hds
  go_enter Tryz.func87, Tryz.ntmps87
  go_upto_region 1 with fail
  go_region_held3 (fun w' => w'.cell? ⟨w.heap.size, 0, none⟩ = some (.int .i64 m) ∧ w'.cell? ⟨w.heap.size, 1, none⟩ = some (.int .i64 x) ∧ Bel (w.heap.size + 1) W w')
    ((go_split_ands; (with_reducible refine HSS.out _ ?_); (repeat (first | (with_reducible assumption) | (with_reducible refine Bel.call ?_ hbz) | (with_reducible refine Bel.alloc ?_ _) | (with_reducible refine Bel.drew ?_) | (with_reducible refine Bel.set ?_ _ (by first | exact Nat.le_refl _ | (simp; done) | (simp; omega)))))))
    (first
      | (go_at_call 100; (with_reducible refine (size_c m _ hm0 hm1).mono ?_); rintro en w' ⟨rfl, rfl⟩; rw [HN.out])
      | (go_at_call 89; (with_reducible refine (digitsOf_c N _ HM.out).mono ?_); rintro en w' ⟨v, rfl, hv, hf, hbz⟩; rw [HDS.out] at hv; obtain ⟨A9, c9, rfl, hc9, hm9, hr9⟩ := hv; have HR9 := Lib.hid hr9; have HC9 := Lib.hid (And.intro hc9 hm9); have HF9 := Lib.hid hf; go_split_ands; have HB9 := Lib.hid (below_then' (show Below W.heap.size W _ from by first | exact Below.refl _ _ | exact (Below.refl _ _).drew) hbz); have q := heapB HB9.out HK1.out; have q0 := cell_of_heap q 0; have q1 := cell_of_heap q 1; have q2 := cell_of_heap q 2; have q3 := cell_of_heap q 3; have y0 := free_of_heap q 0; have y1 := free_of_heap q 1; have y2 := free_of_heap q 2; have y3 := free_of_heap q 3; have HQ := Lib.hid q; simp at q0 q1 q2 q3; clear hr9 hf hc9 hm9 q))
  all_goals
    go_wp2_with fail
    obtain ⟨F, hF, hb, hk, ho⟩ := amt_put (s := s) (n := ds.length) (c := c9) (A := A9) (e := x) (more := false) HQ.out
    rw [hF]
    have r0 := cell_of_heap hb 0; have r1 := cell_of_heap hb 1; have r2 := cell_of_heap hb 2; have r3 := cell_of_heap hb 3
    simp at r0 r1 r2 r3
    refine bodyPost_ret (v := .agg #[.bool s, .slice A9 ds.length c9, .int .i64 x, .bool false]) (by simp [results, Tryz.results87, go_sem, r0, r1, r2, r3]) rfl ?_
    exact ⟨_, rfl, ⟨A9, c9, rfl, HC9.out.1, HC9.out.2, row_keep HR9.out HF9.out (by have := HSZ.out; simp; omega) ho⟩, hk _ _ (by simp) (below_then' HBEL.out HB9.out)⟩
end Go.Proofs.YtekbfommnmikbaaGreatDoor
/- Package real: columns. -/
namespace Go.Proofs.YtekbfommnmikbaaGreatDoor
set_option linter.unusedVariables false
set_option linter.unusedSimpArgs false
open Go.RowKit Go.Shelf Go.Proofs
attribute [local go_sem ↓] Go.wp_at_zero Go.wp_at_succ

/-- The columns t lie in block B. -/
def Cols (w : World) (B : Nat) (t : List Int) : Prop := w.heap[B]? = some (.cells (t.map (Value.int .i64)).toArray 173 (0, 0))
theorem Cols.cell {w : World} {B : Nat} {t : List Int} (h : Cols w B t) (i : Nat) (hi : i < t.length) : w.cell? ⟨B, i, none⟩ = some (.int .i64 (t[i]?.getD 0)) := by
  rw [cell_of_heap h, List.getElem?_toArray, List.getElem?_map, List.getElem?_eq_getElem hi]; rfl
theorem Cols.free {w : World} {B : Nat} {t : List Int} (h : Cols w B t) (i : Nat) : w.frozen? ⟨B, i, none⟩ = false := free_of_heap h i
theorem Cols.put {w : World} {B : Nat} {t : List Int} (h : Cols w B t) (i : Nat) (x : Int) : Cols (w.setCell ⟨B, i, none⟩ (.int .i64 x)) B (t.set i x) := by
  have := putB h i (.int .i64 x)
  unfold Cols
  rw [this]
  congr 2
  simp
theorem Cols.drew {w : World} {B : Nat} {t : List Int} (h : Cols w B t) : Cols w.drew B t := h
theorem Cols.zero (w : World) : Cols (w.alloc (.cells Tryz.zeroCells173 173)) w.heap.size (List.replicate 430 0) := by
  have e : Tryz.zeroCells173 = ((List.replicate 430 (0 : Int)).map (Value.int .i64)).toArray := by kernel_rfl
  unfold Cols
  rw [heap_alloc_new, e]

/-- All but block B is kept. -/
structure Kb (B : Nat) (w w' : World) : Prop where
  os : w'.os = w.os
  tape : w'.tape = w.tape
  output : w'.output = w.output
  size : w.heap.size ≤ w'.heap.size
  block : ∀ g, g < w.heap.size → g ≠ B → w'.heap[g]? = w.heap[g]?
theorem Kb.refl (B : Nat) (w : World) : Kb B w w := ⟨rfl, rfl, rfl, Nat.le_refl _, fun _ _ _ => rfl⟩
theorem Kb.trans {B : Nat} {a b c : World} (h : Kb B a b) (k : Kb B b c) : Kb B a c := ⟨k.os.trans h.os, k.tape.trans h.tape, k.output.trans h.output, Nat.le_trans h.size k.size, fun g hg hB => (k.block g (Nat.lt_of_lt_of_le hg h.size) hB).trans (h.block g hg hB)⟩
theorem Kb.set (B i : Nat) (w : World) (v : Value) : Kb B w (w.setCell ⟨B, i, none⟩ v) :=
  have h := (Below.refl B w).setCell (p := ⟨B, i, none⟩) (Nat.le_refl _) v
  ⟨h.os, h.tape, h.output, h.size, fun g _ hB => Below.heap_setCell _ _ _ _ hB⟩
theorem Kb.of {B : Nat} {w w' : World} (h : Below w.heap.size w w') : Kb B w w' := ⟨h.os, h.tape, h.output, h.size, fun g hg _ => h.block g hg⟩
theorem Kb.drew (B : Nat) (w : World) : Kb B w w.drew := Kb.of (Below.refl _ _).drew
theorem Kb.below {B : Nat} {w w' : World} (h : Kb B w w') (hB : B < w.heap.size) : Below B w w' := ⟨h.os, h.tape, h.output, h.size, fun g hg => h.block g (by omega) (by omega)⟩
theorem Kb.heap {B : Nat} {w w' : World} (h : Kb B w w') {g : Nat} {o : Obj} (hg : w.heap[g]? = some o) (hB : g ≠ B) : w'.heap[g]? = some o := (h.block g (Array.getElem?_eq_some_iff.1 hg).1 hB).trans hg
/-- Bytes lie in no columns. -/
theorem Kb.row {B : Nat} {w w' : World} {t : List Int} {A : Option Addr} {xs : List Int} (h : Kb B w w') (hc : Cols w B t) (hr : Row .u8 w A xs) : Row .u8 w' A xs := fun j hj => by
  obtain ⟨a, e, hc2⟩ := hr j hj
  refine ⟨a, e, ?_⟩
  have hlt := World.block_lt_of_cell? w _ hc2
  have hne : (a.add j).block ≠ B := fun e2 => by
    have h3 : w.cell? (a.add j) = (t.map (Value.int .i64)).toArray[(a.add j).off]? ∨ (a.add j).spot ≠ none := by
      rcases hs : (a.add j).spot with _ | s
      · left
        have e3 : a.add j = ⟨B, (a.add j).off, none⟩ := by rw [← e2, ← hs]
        conv => lhs; rw [e3]
        rw [cell_of_heap hc]
      · right; simp
    rcases h3 with h3 | h3
    · rw [hc2, List.getElem?_toArray, List.getElem?_map] at h3
      cases h4 : t[(a.add j).off]? with
      | none => rw [h4] at h3; cases h3
      | some x => rw [h4] at h3; simp at h3
    · unfold World.cell? at hc2
      rw [e2, hc] at hc2
      simp at hc2
  rw [World.cell?_of_block (w := w) (h.block _ hlt hne)]
  exact hc2
set_option maxRecDepth 100000 in
set_option maxHeartbeats 4000000 in
theorem enter_c (B : Nat) (t : List Int) (v : Value) (s : Bool) (ds : List Int) (e : Int) (more : Bool) (f : Int) (k : Nat) (M : Int) (w : World) (hB : B < w.heap.size) (hc : Cols w B t) (ht : t.length = 430) (hv : Amt w v s ds e more) (hi : InR 10 ds) (hk : e + 222 = (k : Int)) (hkl : k + ds.length ≤ 430)
    (hf : -9 ≤ f) (hf2 : f ≤ 9) (hM : TB M t) (hM0 : 0 ≤ M) (hM1 : M ≤ 1000000000) :
    Calls Tryz.prog 173 #[.pointer (some ⟨B, 0, none⟩), v, .int .i64 f] w fun en w' => en = .returned (.tuple #[]) ∧ ∃ t', Cols w' B t' ∧ t'.length = 430 ∧ val 10 t' = val 10 t + (if s then -f else f) * vd ds * 10 ^ k ∧ TB (M + 81 * (ds.length : Int)) t' ∧ Kb B w w' := by
  obtain ⟨A, c, rfl, hc1, hc2, hr⟩ := hv
  obtain ⟨L, hL⟩ : ∃ L, ds.length = L := ⟨_, rfl⟩
  rw [hL] at hkl hc1 ⊢
  have HL := Lib.hid hL
  obtain ⟨W, hW, k0, hbel, hsz⟩ : ∃ W, w.alloc (.cells #[.bool s, .slice A L c, .int .i64 e, .bool more] 95) = W ∧ W.heap[w.heap.size]? = some (.cells #[.bool s, .slice A L c, .int .i64 e, .bool more] 95 (0, 0)) ∧ Below w.heap.size w W ∧ W.heap.size = w.heap.size + 1 :=
    ⟨_, rfl, heap_alloc_new _ _, (Below.refl _ _).alloc (Nat.le_refl _) _, by simp⟩
  have c00 := cell_of_heap k0 0; have c01 := cell_of_heap k0 1; have c02 := cell_of_heap k0 2
  simp at c00 c01 c02
  have HCO : Hid (Cols W B t) := heapB hbel hc
  have HR := Lib.hid (hr.below hbel)
  have HK0 := Lib.hid k0; have HKB : Hid (Kb B w W) := Kb.of hbel
  have HT := Lib.hid ht; have HI := Lib.hid hi; have HM := Lib.hid hM
  obtain ⟨F, hF⟩ : ∃ F : Int, (if s then -f else f) = F := ⟨_, rfl⟩
  rw [hF]
  have hF1 : -9 ≤ F := by rw [← hF]; split <;> omega
  have hF2 : F ≤ 9 := by rw [← hF]; split <;> omega
  have HF := Lib.hid hF
  have HK := Lib.hid hk
  have hBW : B < w.heap.size := hB
  clear k0 hbel hr hc ht hi hM hF hL
  go_enter Tryz.func173, Tryz.ntmps173
  go_upto_if 10 with fail
  go_cut [2] from 11 to 12 (fun v wx => v = .int .i64 F ∧ wx = W)
  case first =>
    cases s
    · go_wp2_with fail
      go_meet
      exact ⟨by rw [← HF.out]; rfl, rfl⟩
    · go_wp2_with fail
      go_meet
      exact ⟨by rw [← HF.out]; rfl, rfl⟩
  case rest =>
    obtain ⟨rfl, rfl⟩ := hcut
    go_wp2_with fail
    go_loopg [16] L (fun g iv wr => ∃ (i : Nat) (t' : List Int), iv = .int .i64 (i : Int) ∧ i + g = L ∧ Hid (Cols wr B t' ∧ t'.length = 430) ∧ Hid (val 10 t' = val 10 t + F * vd (ds.take i) * 10 ^ (k + (L - i))) ∧ Hid (TB (M + 81 * (i : Int)) t') ∧ Hid (Kb B wc wr))
    case atStart => exact ⟨0, t, rfl, by omega, ⟨HCO.out, HT.out⟩, by show _ = _; simp [vd], by show TB _ _; have := HM.out; simpa using this, Kb.refl _ _⟩
    case round =>
      obtain ⟨i, t', rfl, hi, HC, HV, HTB, HW⟩ := hrel
      have HI2 := Lib.hid hi
      by_cases hiL : i < L
      · obtain ⟨a, rfl, hcell⟩ := (HW.out.row HCO.out HR.out) i (by rw [HL.out]; exact hiL)
        have hin := HI.out.at_ (by decide) i
        rw [List.getD_eq_getElem?_getD] at hin
        obtain ⟨d, hd⟩ : ∃ d, ds[i]?.getD 0 = d := ⟨_, rfl⟩
        rw [hd] at hcell hin
        have HD := Lib.hid hd
        have hin0 := hin.1
        have hin9 : d < 10 := hin.2
        obtain ⟨j, hj⟩ : ∃ j, k + (L - 1 - i) = j := ⟨_, rfl⟩
        have hj430 : j < 430 := by omega
        have HJ := Lib.hid hj
        have hje : e + 222 + (L : Int) - 1 - (i : Int) = (j : Int) := by have := HK.out; omega
        have hje2 : e - -222 + (L : Int) - 1 - (i : Int) = (j : Int) := by have := HK.out; omega
        have j0 : (0 : Int) ≤ (j : Int) := by omega
        have j1 : (j : Int) < 430 := by omega
        have hcj := HC.out.1.cell j (by rw [HC.out.2]; exact hj430)
        have hfj := HC.out.1.free j
        have htb := HTB.out.at_ (by omega) j
        obtain ⟨x, hx⟩ : ∃ x, t'[j]?.getD 0 = x := ⟨_, rfl⟩
        rw [hx] at hcj htb
        have HX := Lib.hid hx
        have htb0 := htb.1; have htb1 := htb.2
        have d00 := cell_of_heap (HW.out.heap HK0.out (by omega)) 0; have d01 := cell_of_heap (HW.out.heap HK0.out (by omega)) 1; have d02 := cell_of_heap (HW.out.heap HK0.out (by omega)) 2
        simp at d00 d01 d02
        have hfd1 : F * d ≤ 81 := by
          have h1 := Int.mul_le_mul_of_nonneg_right hF2 hin0
          omega
        have hfd0 : -81 ≤ F * d := by
          have h1 := Int.mul_le_mul_of_nonneg_right hF1 hin0
          omega
        have hwr : IntKind.i64.wrap d = d := IntWalk.i64_in _ (by omega)
        have hiL2 : (i : Int) < (L : Int) := by omega
        have hw1 : IntKind.i64.wrap (e - -222) = (k : Int) := by rw [show e - -222 = (k : Int) by omega]; exact IntWalk.i64_in _ (by omega)
        have hw2 : IntKind.i64.wrap ((k : Int) + (L : Int)) = (k : Int) + (L : Int) := IntWalk.i64_in _ (by omega)
        have hw3 : IntKind.i64.wrap ((k : Int) + (L : Int) - 1) = (k : Int) + (L : Int) - 1 := IntWalk.i64_in _ (by omega)
        have hw4 : IntKind.i64.wrap ((k : Int) + (L : Int) - 1 - (i : Int)) = (j : Int) := by rw [show (k : Int) + (L : Int) - 1 - (i : Int) = (j : Int) by omega]; exact IntWalk.i64_in _ (by omega)
        have hw5 : IntKind.i64.wrap (F * d) = F * d := IntWalk.i64_in _ (by omega)
        have hw6 : IntKind.i64.wrap (x + F * d) = x + F * d := IntWalk.i64_in _ (by omega)
        have HE := Lib.hid hje
        clear hi hj hx hd hin htb hje hje2
        go_wp2_with fail
        go_region
        go_wp2_with fail
        go_roundg (gk - 1)
        case measure => have := HI2.out; omega
        case rel =>
          refine ⟨i + 1, t'.set j (x + F * d), by go_num, by have := HI2.out; omega, ⟨(HC.out.1.put j _).drew, by rw [List.length_set]; exact HC.out.2⟩, ?_, ?_, (HW.out.trans (Kb.set B j wr _)).trans (Kb.drew _ _)⟩
          · have h1 := enter_step (t := t') (ds := ds) (k := k) (V0 := val 10 t) (f := F) HL.out hiL HD.out (by rw [HJ.out, HC.out.2]; exact hj430) HV.out
            rw [HJ.out, HX.out] at h1
            exact h1
          · exact HTB.out.set (by omega) j (by omega) (by omega)
      · obtain rfl : i = L := by omega
        clear hi
        go_wp2_with fail
        go_end0
        refine ⟨rfl, t', HC.out.1, HC.out.2, ?_, HTB.out, HKB.out.trans HW.out⟩
        have h1 := HV.out
        rw [Nat.sub_self, Nat.add_zero, List.take_of_length_le (by rw [HL.out]; exact Nat.le_refl _)] at h1
        exact h1

theorem cols_set {u t : List Int} {i : Nat} (hu : u.length = i) (hi : i < t.length) (y : Int) : (u ++ t.drop i).set i y = (u ++ [y]) ++ t.drop (i + 1) := by
  rw [List.set_append_right _ _ (by omega), hu, Nat.sub_self, List.drop_eq_getElem_cons hi, List.set_cons_zero, List.append_assoc]; rfl
theorem cols_at {u t : List Int} {i : Nat} (hu : u.length = i) (hi : i < t.length) : (u ++ t.drop i)[i]?.getD 0 = t[i]?.getD 0 := by
  rw [List.getElem?_append_right (by omega), hu, Nat.sub_self, List.getElem?_drop, Nat.add_zero]
/-- Go's division by 10, mended. -/
theorem floor10 (n : Int) : (n.tmod 10 < 0 → n.fdiv 10 = n.tdiv 10 - 1) ∧ (¬ n.tmod 10 < 0 → n.fdiv 10 = n.tdiv 10) := by
  have h1 := Int.mul_tdiv_add_tmod n 10
  have h2 := Int.mul_fdiv_add_fmod n 10
  have h3 : 0 ≤ n.fmod 10 := Int.fmod_nonneg_of_pos _ (by decide)
  have h4 : n.fmod 10 < 10 := Int.fmod_lt_of_pos _ (by decide)
  have h5 : -10 < n.tmod 10 ∧ n.tmod 10 < 10 := by
    rcases Int.le_total 0 n with h | h
    · obtain ⟨k, rfl⟩ := Int.eq_ofNat_of_zero_le h
      have : ((k : Int).tmod 10) = ((k % 10 : Nat) : Int) := rfl
      rw [this]; omega
    · obtain ⟨k, hk⟩ := Int.eq_ofNat_of_zero_le (show 0 ≤ -n by omega)
      obtain rfl : n = -(k : Int) := by omega
      have : ((k : Int).tmod 10) = ((k % 10 : Nat) : Int) := rfl
      rw [Int.neg_tmod, this]; omega
  constructor <;> intro <;> omega

set_option maxRecDepth 100000 in
set_option maxHeartbeats 4000000 in
theorem carry_c (B : Nat) (t : List Int) (M : Int) (w : World) (hB : B < w.heap.size) (hc : Cols w B t) (ht : t.length = 430) (hM : TB M t) (hM0 : 0 ≤ M) (hM1 : M ≤ 1000000000000) :
    Calls Tryz.prog 214 #[.pointer (some ⟨B, 0, none⟩)] w fun en w' => ∃ (o : Int) (u : List Int), en = .returned (.int .i64 o) ∧ Cols w' B u ∧ u.length = 430 ∧ InR 10 u ∧ val 10 u + 10 ^ 430 * o = val 10 t ∧ Kb B w w' := by
  have HC0 := Lib.hid hc; have HT := Lib.hid ht; have HM := Lib.hid hM
  clear hc ht hM
  go_enter Tryz.func214, Tryz.ntmps214
  go_wp2_with fail
  go_loopg [3, 6] 430 (fun g ov iv wr => ∃ (i : Nat) (o : Int) (u : List Int), iv = .int .i64 (i : Int) ∧ ov = .int .i64 o ∧ i + g = 430 ∧ Hid (u.length = i) ∧ Hid (InR 10 u) ∧ Hid (val 10 u + 10 ^ i * (o + val 10 (t.drop i)) = val 10 t) ∧ Hid (Cols wr B (u ++ t.drop i)) ∧ -(M + 1) ≤ o ∧ o ≤ M + 1 ∧ Hid (Kb B w wr))
  case atStart => exact ⟨0, 0, [], rfl, rfl, by omega, rfl, InR.nil 10, by show _ = _; simp [val], HC0.out, by omega, by omega, Kb.refl _ _⟩
  case round =>
    obtain ⟨i, o, u, rfl, rfl, hi, HU, HIU, HV, HC, ho1, ho2, HW⟩ := hrel
    have HI := Lib.hid hi
    by_cases hi4 : i < 430
    · have hit : i < t.length := by rw [HT.out]; exact hi4
      have hcj := HC.out.cell i (by rw [List.length_append, List.length_drop, HU.out]; omega)
      rw [cols_at HU.out hit] at hcj
      have hfj := HC.out.free i
      have htb := HM.out.at_ hM0 i
      have HCS := Lib.hid (fun n (hn : n = t[i]?.getD 0 + o) => carry_step hit HU.out HIU.out HV.out hn)
      obtain ⟨x, hx⟩ : ∃ x, t[i]?.getD 0 = x := ⟨_, rfl⟩
      rw [hx] at hcj htb HCS
      have htb0 := htb.1; have htb1 := htb.2
      obtain ⟨n, hn⟩ : ∃ n, x + o = n := ⟨_, rfl⟩
      have HS := HCS.out n hn.symm
      obtain ⟨f1, f2⟩ := floor10 n
      have hqr := Int.mul_tdiv_add_tmod n 10
      have hfm := Int.mul_fdiv_add_fmod n 10
      have hf0 : 0 ≤ n.fmod 10 := Int.fmod_nonneg_of_pos _ (by decide)
      have hf9 : n.fmod 10 < 10 := Int.fmod_lt_of_pos _ (by decide)
      obtain ⟨Q, hQ⟩ : ∃ Q, n.fdiv 10 = Q := ⟨_, rfl⟩
      rw [hQ] at HS f1 f2 hfm
      obtain ⟨q, hq⟩ : ∃ q, n.tdiv 10 = q := ⟨_, rfl⟩
      rw [hq] at f1 f2 hqr
      have hn1 : -(2 * M + 1) ≤ n := by omega
      have hn2 : n ≤ 2 * M + 1 := by omega
      have hQ1 : -(M + 1) ≤ Q := by omega
      have hQ2 : Q ≤ M + 1 := by omega
      have HST := Lib.hid HS
      have HN := Lib.hid hn
      have j0 : (0 : Int) ≤ (i : Int) := by omega
      have j1 : (i : Int) < 430 := by omega
      by_cases hneg : n.tmod 10 < 0
      · have hqQ : q - 1 = Q := (f1 hneg).symm
        have hq1 : -(M + 1) ≤ q := by omega
        have hq2 : q ≤ M + 2 := by omega
        have hdec : decide (n.tmod 10 < 0) = true := decide_eq_true hneg
        clear f1 f2 hqr hfm hf0 hf9 HS hi htb hx hQ HCS
        go_wp2_with fail
        go_roundg (gk - 1)
        case measure => have := HI.out; omega
        case rel =>
          refine ⟨i + 1, Q, u ++ [n - 10 * Q], by go_num, rfl, by have := HI.out; omega, by show _ = _; rw [List.length_append, HU.out]; rfl, HST.out.1, HST.out.2, ?_, hQ1, hQ2, HW.out.trans (Kb.set B i wr _)⟩
          have h1 := HC.out.put i (n - 10 * Q)
          rw [cols_set HU.out hit] at h1
          exact h1
      · have hqQ : q = Q := (f2 hneg).symm
        subst hqQ
        have hdec : decide (n.tmod 10 < 0) = false := decide_eq_false hneg
        clear f1 f2 hqr hfm hf0 hf9 HS hi htb hx hQ HCS
        go_wp2_with fail
        go_roundg (gk - 1)
        case measure => have := HI.out; omega
        case rel =>
          refine ⟨i + 1, q, u ++ [n - 10 * q], by go_num, rfl, by have := HI.out; omega, by show _ = _; rw [List.length_append, HU.out]; rfl, HST.out.1, HST.out.2, ?_, hQ1, hQ2, HW.out.trans (Kb.set B i wr _)⟩
          have h1 := HC.out.put i (n - 10 * q)
          rw [cols_set HU.out hit] at h1
          exact h1
    · obtain rfl : i = 430 := by omega
      clear hi
      go_wp2_with fail
      go_ret
      refine ⟨o, u, rfl, ?_, HU.out, HIU.out, carry_end HU.out HT.out HIU.out HV.out, HW.out⟩
      have h1 := HC.out
      rw [List.drop_eq_nil_of_le (by rw [HT.out]; exact Nat.le_refl _), List.append_nil] at h1
      exact h1
end Go.Proofs.YtekbfommnmikbaaGreatDoor
/- Package real: the sum of the columns. -/
namespace Go.Proofs.YtekbfommnmikbaaGreatDoor
set_option linter.unusedVariables false
set_option linter.unusedSimpArgs false
open Go.RowKit Go.Shelf
attribute [local go_sem] Oper.semAt_some

set_option maxRecDepth 100000 in
set_option maxHeartbeats 2000000 in
/-- The closure: for every loop body that keeps what it reads. -/
theorem back1_in (F : Fence) (n : Nat) (h7 : F.fn 236) (hro : F.round = none) (hn : 1 ≤ n) (l Bs n₀ : Nat) (A : Option Addr) (cap : Nat) (zs : List Int) (hreach : zs.length ≤ 9223372036854775807) (J Jx : List (Ix zs.length) → World → Prop)
    (W : World) (hA : ∀ a, A = some a → zs.length = 0 ∨ a.block < n₀) (hY : ∀ pre x W1, J pre W1 → pre.length < zs.length → YieldAt F (n - 1) Tryz.prog l #[.int .i64 ((x.1 : Nat) : Int), .int .i64 (zs[x.1]?.getD 0)] W1 fun e W' =>
      (e = .returned (.bool true) ∧ J (pre ++ [x]) W' ∧ Kd n₀ Bs W1 W') ∨ (e = .returned (.bool false) ∧ Jx (pre ++ [x]) W'))
    (hBs : W.cell? ⟨Bs, 0, none⟩ = some (.slice A zs.length cap)) (hc : Row .i64 W A zs) (h0 : J [] W) :
    CallsIn F n Tryz.prog 236 #[.func (.yield l) #[] #[], .pointer (some ⟨Bs, 0, none⟩)] W fun e W' => (∃ v, e = .returned v) ∧
      ((∃ ys, ys = dn zs.length zs.length ∧ J ys W') ∨ (∃ pre, (∃ k, k < zs.length ∧ pre = dn zs.length (k + 1)) ∧ Jx pre W')) := by
  refine callsIn_of_wp Tryz.func236 rfl h7 ?_ hro
  simp only [Tryz.ntmps236, List.size_toArray, List.length_cons, List.length_nil, Nat.reduceAdd, Nat.reduceSub, Array.replicate_succ, Array.replicate_zero, List.push_toArray, List.append_toArray, List.nil_append, List.cons_append]
  have HC := Lib.hid hc
  clear hc
  gi_wp2
  have HBs := Lib.hid hBs
  clear hBs
  gi_loopw [3] (fun i wr => ∃ k : Nat, k ≤ zs.length ∧ i = .int .i64 ((zs.length : Int) - 1 - k) ∧ J (dn zs.length k) wr ∧ Hid (Kd n₀ Bs W wr))
    (fun i _ => (intOf i + 1).toNat)
  case atStart => exact ⟨0, Nat.zero_le _, by simp, by rw [dn_zero]; exact h0, ⟨Below.refl _ _, rfl⟩⟩
  case round =>
    obtain ⟨k, hk, rfl, hJs, HX⟩ := hrel
    have hbx : wr.cell? ⟨Bs, 0, none⟩ = some (.slice A zs.length cap) := (World.cell?_of_block (w := W) (a := ⟨Bs, 0, none⟩) HX.out.2).trans HBs.out
    by_cases hlt : k < zs.length
    · obtain ⟨j, hj⟩ : ∃ j, zs.length = k + j + 1 := ⟨zs.length - k - 1, by omega⟩
      have HJ := Lib.hid hj
      have hjl : j < zs.length := by omega
      have ej : ((zs.length : Int) - 1 - k) = (j : Int) := by omega
      rw [ej]
      obtain ⟨a, rfl, hcell⟩ := HC.out j (by omega)
      have hcj : wr.cell? (a.add j) = some (.int .i64 (zs[j]?.getD 0)) := (HX.out.1.cell (by rw [add_block]; exact (hA a rfl).resolve_left (by omega))).trans hcell
      clear hcell
      obtain ⟨fn, tmps, assign, body, hy, hR⟩ := hY _ ⟨j, hjl⟩ wr hJs (by rw [dn_length _ _ hk]; exact hlt)
      have e5 : dn zs.length (k + 1) = dn zs.length k ++ [⟨j, hjl⟩] := by rw [dn_succ _ _ hlt]; congr 3; omega
      have HE := Lib.hid e5
      dsimp only at hy
      clear hj e5 ej
      generalize hz : zs[j]?.getD 0 = z at *
      have HZ := Lib.hid hz
      clear hz
      gi_wp2
      refine hR.mono ?_
      rintro e W3 (⟨rfl, hJ3, hk3⟩ | ⟨rfl, hJx3⟩)
      · gi_wp2
        go_roundw
        case rel => exact ⟨k + 1, by omega, by have := HJ.out; first | (simp; done) | (simp; omega), by rw [HE.out]; exact hJ3, HX.out.t hk3⟩
        case measure => first | (simp [intOf]; done) | (simp [intOf]; have := HJ.out; omega)
      · gi_wp2
        refine bodyPost_ret (results_none rfl _ _ _) rfl ?_
        exact ⟨⟨_, rfl⟩, .inr ⟨_, ⟨k, by omega, HE.out.symm⟩, hJx3⟩⟩
    · obtain rfl : k = zs.length := by omega
      gi_wp2
      go_end0
      exact ⟨⟨_, rfl⟩, .inl ⟨_, rfl, hJs⟩⟩

set_option maxHeartbeats 1000000 in
/-- down: the slice value is boxed; the function value captures the box. -/
theorem back_in (F : Fence) (n : Nat) (h5 : F.fn 215) (hro : F.round = none) (a : Option Addr) (len cap : Nat) (w : World) :
    CallsIn F n Tryz.prog 215 #[.slice a len cap] w fun e w' => e = .returned (.func (.func 236) #[] #[.pointer (some ⟨w.heap.size, 0, none⟩)]) ∧ w' = w.alloc (.cells #[.slice a len cap] 55) := by
  refine callsIn_of_wp Tryz.func215 rfl h5 ?_ hro
  simp only [Tryz.ntmps215, List.size_toArray, List.length_cons, List.length_nil, Nat.reduceAdd, Nat.reduceSub, Array.replicate_succ, Array.replicate_zero, List.push_toArray, List.append_toArray, List.nil_append, List.cons_append]
  gi_wp2
  go_ret
  exact ⟨rfl, rfl⟩

theorem back_stops (F : Fence) (n : Nat) (h7 : F.fn 236) (hro : F.round = none) (hn : 1 ≤ n) (Bs n₀ : Nat) (A : Option Addr) (cap : Nat) (zs : List Int) (hreach : zs.length ≤ 9223372036854775807) (w : World) (hBs : Bs < w.heap.size)
    (hA : ∀ a, A = some a → zs.length = 0 ∨ a.block < n₀) (hn₀ : n₀ ≤ w.heap.size) (hc : w.cell? ⟨Bs, 0, none⟩ = some (.slice A zs.length cap)) (hI : Row .i64 w A zs) :
    SeqStopsK F n Tryz.prog 236 #[.pointer (some ⟨Bs, 0, none⟩)] (fun x : Ix zs.length => #[Value.int .i64 ((x.1 : Nat) : Int), Value.int .i64 (zs[x.1]?.getD 0)]) (Kd n₀ Bs) (fun ys => ys = dn zs.length zs.length) (fun pre => ∃ k, k < zs.length ∧ pre = dn zs.length (k + 1)) zs.length w := fun l J Jx W hW _ _ hY h0 =>
  back1_in F n h7 hro hn l Bs n₀ A cap zs hreach J Jx W hA hY ((hW.cell (p := ⟨Bs, 0, none⟩) hBs).trans hc) (hI.below hW) h0


theorem dn_rev (u : List Int) : ((dn u.length u.length).map fun x => Value.int .u8 (u[x.1]?.getD 0)) = u.reverse.map (Value.int .u8) := by
  apply List.ext_getElem
  · rw [List.length_map, dn_length _ _ (Nat.le_refl _), List.length_map, List.length_reverse]
  · intro i h1 h2
    have hi : i < u.length := by simpa using h2
    rw [List.getElem_map, List.getElem_map, List.getElem_reverse]
    simp only [dn, List.getElem_map, List.getElem_attach, List.getElem_range]
    rw [List.getElem?_eq_getElem (by omega)]; rfl
theorem heapKept {W W' : World} {b : Nat} {cs : Array Value} {t : TypeId} {fz : Nat × Nat} {row : Option Nat} (h : W.heap[b]? = some (.cells cs t fz)) (hg : W.grownBy W' row) (hr : ∀ r, row = some r → ∃ o : Obj, W.heap[r]? = some o ∧ o.isCells = false) : W'.heap[b]? = some (.cells cs t fz) := by
  rw [hg.block b (Array.getElem?_eq_some_iff.1 h).1 ?_]
  · exact h
  · intro e'
    obtain ⟨o, ho, hc⟩ := hr b e'.symm
    rw [h] at ho; cases ho; cases hc
theorem Kb.trans' {B n : Nat} {a b c : World} (h : Kb B a b) (k : Below n b c) (hn : a.heap.size ≤ n) : Kb B a c := ⟨k.os.trans h.os, k.tape.trans h.tape, k.output.trans h.output, Nat.le_trans h.size k.size, fun g hg hB => (k.block g (by omega)).trans (h.block g hg hB)⟩
/-- The first i columns turned around in sign. -/
def negAt (u : List Int) (i : Nat) : List Int := (u.take i).map (fun x => -x) ++ u.drop i
theorem negAt_zero (u : List Int) : negAt u 0 = u := by simp [negAt]
theorem negAt_all {u : List Int} {L : Nat} (h : u.length = L) : negAt u L = u.map fun x => -x := by
  unfold negAt; rw [List.take_of_length_le (by omega), List.drop_eq_nil_of_le (by omega), List.append_nil]
theorem negAt_length {u : List Int} {L i : Nat} (h : u.length = L) (hi : i ≤ L) : (negAt u i).length = L := by simp [negAt]; omega
theorem negAt_at {u : List Int} {i : Nat} (hi : i < u.length) : (negAt u i)[i]?.getD 0 = u[i]?.getD 0 := by
  unfold negAt
  exact cols_at (by rw [List.length_map, List.length_take]; omega) hi
theorem negAt_set {u : List Int} {i : Nat} (hi : i < u.length) {x : Int} (hx : u[i]?.getD 0 = x) : (negAt u i).set i (-x) = negAt u (i + 1) := by
  unfold negAt
  rw [cols_set (by rw [List.length_map, List.length_take]; omega) hi, drop_take hi, hx, List.map_append]; rfl
theorem tb_digits {u : List Int} (h : InR 10 u) : TB 9 (u.map fun x => -x) := fun y hy => by
  obtain ⟨x, hx, rfl⟩ := List.mem_map.1 hy
  have := h x hx
  have h2 : x < 10 := this.2
  omega

set_option maxRecDepth 100000 in
set_option maxHeartbeats 4000000 in
theorem total_in (B : Nat) (t : List Int) (M : Int) (w : World) (hB : B < w.heap.size) (hc : Cols w B t) (ht : t.length = 430) (hM : TB M t) (hM0 : 0 ≤ M) (hM1 : M ≤ 1000000000000) (hV0 : -(10 ^ 430) < val 10 t) (hV1 : val 10 t < 10 ^ 430) :
    CallsIn Fence.wide 6 Tryz.prog 174 #[.pointer (some ⟨B, 0, none⟩)] w fun en w' => ∃ v ds, en = .returned v ∧ Amt w' v (decide (val 10 t < 0)) ds (-222) false ∧ InR 10 ds ∧ vd ds = ((val 10 t).natAbs : Int) ∧ ds.length = 430 ∧ Kb B w w' := by
  have HC0 := Lib.hid hc; have HT := Lib.hid ht; have HM := Lib.hid hM; have HV := Lib.hid (And.intro hV0 hV1)
  clear hc ht hM hV0 hV1
  refine callsIn_of_wp_marks Tryz.func174 rfl trivial ?_ rfl
  simp only [Tryz.ntmps174, List.size_toArray, List.length_cons, List.length_nil, Nat.reduceAdd, Nat.reduceSub, Array.replicate_succ, Array.replicate_zero, List.push_toArray, List.append_toArray, List.nil_append, List.cons_append]
  obtain ⟨W, hW, k0, k1, hbel, hsz⟩ := bx2h w #[.bool false, .slice none 0 0, .int .i64 0, .bool false] #[.bool false, .slice none 0 0, .int .i64 (-222), .bool false] 95 95
  have HK0 := Lib.hid k0; have HK1 := Lib.hid k1; have HBEL := Lib.hid hbel; have HSZ := Lib.hid hsz
  have HC1 : Hid (Cols W B t) := heapB hbel HC0.out
  have hBW : B < W.heap.size := by omega
  have HWD := Lib.hid hW
  obtain ⟨s, hs⟩ : ∃ s, decide (val 10 t < 0) = s := ⟨_, rfl⟩
  rw [hs]
  have HS := Lib.hid hs
  clear k0 k1 hbel hsz hW hs
  gi_upto_region 2 with fail
  rw [HWD.out]
  gi_upto_if 10 with (refine ⟨trivial, ?_⟩; gi_at_call 214; refine (callsIn_wide.2 (carry_c B t M _ hBW HC1.out HT.out HM.out hM0 hM1)).mono ?_; rintro en W2 ⟨o, u, rfl, hcu, hlu, hiu, hvu, hkb⟩; have HCU := Lib.hid hcu; have HLU := Lib.hid hlu; have HIU := Lib.hid hiu; have HVU := Lib.hid hvu; have HKB := Lib.hid hkb; clear hcu hlu hiu hvu hkb)
  have HA2 : Hid (W2.heap[w.heap.size + 1]? = _) := HKB.out.heap HK1.out (by omega)
  have HR2 : Hid (W2.heap[w.heap.size]? = _) := HKB.out.heap HK0.out (by omega)
  have HKW : Hid (Kb B w W2) := (Kb.of HBEL.out).trans HKB.out
  have hsz2 : w.heap.size + 2 ≤ W2.heap.size := by have := HKB.out.size; have := HSZ.out; omega
  gi_cut [4] from 11 (fun v4 wx => ∃ u', Hid (Cols wx B u') ∧ Hid (u'.length = 430 ∧ InR 10 u' ∧ val 10 u' = ((val 10 t).natAbs : Int)) ∧ Hid (wx.heap[w.heap.size + 1]? = some (.cells #[.bool s, .slice none 0 0, .int .i64 (-222), .bool false] 95 (0, 0))) ∧ Hid (wx.heap[w.heap.size]? = some (.cells #[.bool false, .slice none 0 0, .int .i64 0, .bool false] 95 (0, 0))) ∧ Hid (Kb B w wx) ∧ Hid (w.heap.size + 2 ≤ wx.heap.size))
  case first =>
    have HCO := Lib.hid (carry_over HLU.out HIU.out HVU.out)
    by_cases hV : 0 ≤ val 10 t
    · obtain ⟨rfl, hv⟩ := HCO.out.1 hV HV.out.2
      have HVV : Hid (val 10 u = ((val 10 t).natAbs : Int)) := by show _ = _; rw [hv]; omega
      obtain rfl : s = false := by rw [← HS.out]; simpa using hV
      clear hV hv
      gi_wp2_with fail
      gi_meet
      case rel => exact ⟨u, HCU.out, ⟨HLU.out, HIU.out, HVV.out⟩, HA2.out, HR2.out, HKW.out, hsz2⟩
    · obtain ⟨rfl, hv⟩ := HCO.out.2 (by omega) (Int.le_of_lt HV.out.1)
      have HVV := Lib.hid hv
      obtain rfl : s = true := by rw [← HS.out]; simpa using hV
      have hVn : val 10 t < 0 := by omega
      have HVN := Lib.hid hVn
      have c0 := cell_of_heap HA2.out 0
      have f0 := free_of_heap HA2.out 0
      simp at c0
      clear hV hv hVn
      gi_wp2_with fail
      have HCU3 : Hid (Cols (W2.setCell ⟨w.heap.size + 1, 0, none⟩ (.bool true)) B u) := (Below.heap_setCell _ _ _ _ (by simp; omega)).trans HCU.out
      have hra := putB HA2.out 0 (.bool true)
      simp at hra
      have HA3 := Lib.hid hra
      have HR3 : Hid ((W2.setCell ⟨w.heap.size + 1, 0, none⟩ (.bool true)).heap[w.heap.size]? = _) := (Below.heap_setCell _ _ _ _ (by simp)).trans HR2.out
      have HK3 : Hid (Kb B w (W2.setCell ⟨w.heap.size + 1, 0, none⟩ (.bool true))) := by
        have h1 := (Below.refl (w.heap.size + 1) W2).setCell (p := ⟨w.heap.size + 1, 0, none⟩) (Nat.le_refl _) (.bool true)
        exact HKW.out.trans' h1 (by omega)
      have hsz3 : w.heap.size + 2 ≤ (W2.setCell ⟨w.heap.size + 1, 0, none⟩ (.bool true)).heap.size := by simpa using hsz2
      clear hra c0 f0
      obtain ⟨W3, hW3⟩ : ∃ W3, W2.setCell ⟨w.heap.size + 1, 0, none⟩ (.bool true) = W3 := ⟨_, rfl⟩
      rw [hW3] at HCU3 HA3 HR3 HK3 hsz3 ⊢
      clear hW3
      gi_loopg [4, 13] 430 (fun g v4 iv wr => ∃ i : Nat, iv = .int .i64 (i : Int) ∧ i + g = 430 ∧ Hid (Cols wr B (negAt u i)) ∧ Hid (Kb B W3 wr))
      case atStart => exact ⟨0, rfl, by omega, by show Cols _ _ _; rw [negAt_zero]; exact HCU3.out, Kb.refl _ _⟩
      case round =>
        obtain ⟨i, rfl, hi, HC, HW⟩ := hrel
        have HI := Lib.hid hi
        by_cases hi4 : i < 430
        · have hiu : i < u.length := by rw [HLU.out]; exact hi4
          have hcj := HC.out.cell i (by rw [negAt_length HLU.out (by omega)]; exact hi4)
          rw [negAt_at hiu] at hcj
          have hfj := HC.out.free i
          have hin := HIU.out.at_ (by decide) i
          rw [List.getD_eq_getElem?_getD] at hin
          obtain ⟨x, hx⟩ : ∃ x, u[i]?.getD 0 = x := ⟨_, rfl⟩
          rw [hx] at hcj hin
          have HX := Lib.hid hx
          have hin0 := hin.1
          have hin9 : x < 10 := hin.2
          have j0 : (0 : Int) ≤ (i : Int) := by omega
          have j1 : (i : Int) < 430 := by omega
          have hwn : IntKind.i64.wrap (-x) = -x := IntWalk.i64_in _ (by omega)
          clear hi hx hin
          gi_wp2_with fail
          gi_region
          gi_wp2_with fail
          go_roundg (gk - 1)
          case measure => have := HI.out; omega
          case rel =>
            refine ⟨i + 1, by go_num, by have := HI.out; omega, ?_, (HW.out.trans (Kb.set B i wr _)).trans (Kb.drew _ _)⟩
            have h1 := (HC.out.put i (-x)).drew
            rw [negAt_set hiu HX.out] at h1
            exact h1
        · obtain rfl : i = 430 := by omega
          clear hi
          have HC2 : Hid (Cols wr B (u.map fun x => -x)) := by show Cols _ _ _; rw [← negAt_all HLU.out]; exact HC.out
          have HL2 : Hid ((u.map fun x => -x).length = 430) := by show _ = _; rw [List.length_map]; exact HLU.out
          have HTB2 := Lib.hid (tb_digits HIU.out)
          have HVN2 : Hid (val 10 (u.map fun x => -x) = -val 10 u) := val_neg 10 u
          have hBr : B < wr.heap.size := Nat.lt_of_lt_of_le (by omega) HW.out.size
          gi_wp2_with (refine ⟨trivial, ?_⟩; gi_at_call 214; refine (callsIn_wide.2 (carry_c B _ 9 _ hBr HC2.out HL2.out HTB2.out (by decide) (by decide))).mono ?_; rintro en W4 ⟨o, u4, rfl, hcu, hlu, hiu, hvu, hkb⟩; rw [HVN2.out] at hvu; have HCU4 := Lib.hid hcu; have HLU4 := Lib.hid hlu; have HIU4 := Lib.hid hiu; have HVU4 := Lib.hid hvu; have HKB4 := Lib.hid hkb; clear hcu hlu hiu hvu hkb)
          gi_meet
          case rel =>
            have HX := HW.out.trans HKB4.out
            refine ⟨u4, HCU4.out, ⟨HLU4.out, HIU4.out, ?_⟩, HX.heap HA3.out (by omega), HX.heap HR3.out (by omega), HK3.out.trans HX, Nat.le_trans hsz3 HX.size⟩
            have hv2 := HVV.out
            have hv3 := HV.out.1
            have hn := HVN.out
            have h4 := (carry_over HLU4.out HIU4.out HVU4.out).2
            have hvl := val_lt HIU.out
            rw [HLU.out] at hvl
            have hp : (0 : Int) < 10 ^ 430 := Int.pow_pos (by omega)
            have hvl' : val 10 u < 10 ^ 430 := hvl
            generalize (10 : Int) ^ 430 = P at *
            obtain ⟨-, h5⟩ := h4 (by omega) (by omega)
            omega
  case rest =>
    obtain ⟨u, HCU, HUU, HA, HR, HKB, HSZ2⟩ := hcut
    gi_wp2_with (refine ⟨trivial, ?_⟩; gi_at_call 215; refine (back_in Fence.wide (6 - 1) trivial rfl _ _ _ _).mono ?_; rintro e w' ⟨rfl, rfl⟩)
    have hKW5 : Below wc.heap.size wc (wc.alloc (.cells #[.slice (some ⟨B, 0, none⟩) 430 430] 55)) := (Below.refl _ _).alloc (Nat.le_refl _) _
    have hbx5 : (wc.alloc (.cells #[.slice (some ⟨B, 0, none⟩) 430 430] 55)).heap[wc.heap.size]? = some (.cells #[.slice (some ⟨B, 0, none⟩) 430 430] 55 (0, 0)) := heap_alloc_new _ _
    have hs5 : (wc.alloc (.cells #[.slice (some ⟨B, 0, none⟩) 430 430] 55)).heap.size = wc.heap.size + 1 := by simp
    obtain ⟨W5, hW5⟩ : ∃ W5, wc.alloc (.cells #[.slice (some ⟨B, 0, none⟩) 430 430] 55) = W5 := ⟨_, rfl⟩
    rw [hW5] at hKW5 hbx5 hs5 ⊢
    have HC5 : Hid (Cols W5 B u) := heapB hKW5 HCU.out
    have HA5 := Lib.hid (heapB hKW5 HA.out); have HR5 := Lib.hid (heapB hKW5 HR.out)
    have HKB5 : Hid (Kb B w W5) := HKB.out.trans (Kb.of hKW5)
    have hz2 := HSZ2.out
    have hlu : u.length = 430 := HUU.out.1
    have HROW : Hid (Row .i64 W5 (some ⟨B, 0, none⟩) u) := fun j hj => ⟨_, rfl, by rw [add_lit, Nat.zero_add]; exact HC5.out.cell j hj⟩
    have hst := back_stops Fence.wide (6 - 1) trivial rfl (by decide) wc.heap.size (w.heap.size + 1) (some ⟨B, 0, none⟩) 430 u (by omega) W5 (by omega) (fun a ha => by cases ha; exact .inr (show B < _ by omega)) (by omega) (by rw [hlu]; exact cell_of_heap hbx5 0) HROW.out
    obtain ⟨I0, hi, hz0, hz1, hz3⟩ := info_parts info_byte
    have HI := Lib.hid (And.intro hi (And.intro hz0 (And.intro hz1 hz3)))
    have HST := Lib.hid hst
    have HLU2 := Lib.hid hlu
    clear hi hz0 hz1 hz3 hW5 hKW5 hst hlu
    refine wpIn_rangeFunc_ownF rfl (by decide) (gf := 236) (lb := #[.pointer (some ⟨wc.heap.size, 0, none⟩)]) rfl trivial (enters_of Tryz.func236 (by kernel_rfl) rfl)
      HST.out Kd.t (Kd.b (by omega) (by omega)) (Below.refl _ _) (fun _ => rfl)
      (fun pre V => (∃ v, V.heap[w.heap.size + 1]? = some (.cells #[.bool s, v, .int .i64 (-222), .bool false] 95 (0, 0)) ∧ V.ownsRow W5.heap.size 5 1 v pre.length (pre.map fun x => Value.int .u8 (u[x.1]?.getD 0))) ∧ Below (w.heap.size + 1) W5 V)
      (fun c pre V => False)
      (OwnFrom.and (Own.from (fun s X Y row hs hg hr => by obtain ⟨v, h1, h2⟩ := hs; exact ⟨v, heapKept h1 hg hr, own_kept h2 hg hr⟩) _) (ownFrom_below (by omega) (by omega)))
      (fun c s X Y row hs _ _ => hs)
      ⟨⟨_, HA5.out, World.ownsRow_nil _ _ _ _⟩, Below.refl _ _⟩
      (fun x => { tmps := (.pointer (some ⟨B, 0, none⟩) :: undef :: .pointer (some ⟨w.heap.size, 0, none⟩) :: .pointer (some ⟨w.heap.size + 1, 0, none⟩) :: u4 :: undef :: .int .i64 (u[x.1]?.getD 0) :: .agg #[.bool false, .slice none 0 0, .int .i64 (-222), .bool false] :: .pointer (some ⟨B, 0, none⟩) :: .int .i64 o :: .bool (decide (o < 0)) :: u11 :: u12 :: u13 :: u14 :: u15 :: u16 :: u17 :: u18 :: u19 :: u20 :: u21 :: u22 :: u23 :: u24 :: u25 :: u26 :: u27 :: u28 :: .pointer (some ⟨B, 0, none⟩) :: .pointer (some ⟨B, 0, none⟩) :: .slice (some ⟨B, 0, none⟩) 430 430 :: .func (.func 236) #[] #[.pointer (some ⟨wc.heap.size, 0, none⟩)] :: .int .i64 ((x.1 : Nat) : Int) :: .int .i64 (u[x.1]?.getD 0) :: u35 :: u36 :: u37 :: u38 :: u39 :: u40 :: u41 :: u42 :: []).toArray, defers := [] }) ?assign ?body ?done ?stop
    case assign =>
      intro l x W K hK
      gi_wp2
      exact hK
    case stop => rintro _ _ _ _ _ _ h; exact h.elim
    case body =>
      rintro l pre x V ⟨⟨v, ha, hown⟩, hB⟩ hpl
      obtain ⟨xi, hxi⟩ := x
      dsimp only at *
      have hin := HUU.out.2.1.at_ (by decide) xi
      rw [List.getD_eq_getElem?_getD] at hin
      obtain ⟨d, hd⟩ : ∃ d, u[xi]?.getD 0 = d := ⟨_, rfl⟩
      rw [hd] at hin ⊢
      have hin0 := hin.1
      have hin9 : d < 10 := hin.2
      have hwr : IntKind.u8.wrap d = d := by rw [show IntKind.u8.wrap d = d % 256 from rfl]; omega
      have hwr2 : IntKind.i64.wrap d = d := IntWalk.i64_in _ (by omega)
      have HD := Lib.hid hd
      have c0 := cell_of_heap ha 1
      simp at c0
      have hz5 : W5.heap.size ≤ V.heap.size := hB.size
      have HOW := Lib.hid hown
      have HAX := Lib.hid ha
      have HBX := Lib.hid hB
      have HNE := Lib.hid (own_neB hown (B := w.heap.size + 1) (by omega))
      have HCE : Hid (∀ (j : Nat) (o : Obj), v.ownBlock = some j → (V.alloc (.cells #[.int .u8 d] 5)).heap[j]? = some o → o.isCells = true) := fun j o hj ho => by
        rcases hown.2 with ⟨rfl, _⟩ | ⟨g, cap, cur, rfl, _, hh, _⟩
        · cases hj
        · cases hj
          rw [heap_old _ hh] at ho
          cases ho; rfl
      have hpl2 : pre.length < 430 := by have := HLU2.out; omega
      have a01 : ∀ o, (V.alloc o).cell? ⟨w.heap.size + 1, 1, none⟩ = some v := fun o => keep_cell ((Below.refl _ _).alloc (Nat.le_refl _) o) c0
      clear hd hin ha hown hB
      gi_wp2_with (gi_at_builtin; refine wpListIn_append_own _ rfl _ _ 93 rfl W5.heap.size 5 I0 (.int .u8 0) 1 1 Tryz.underlying93 HI.out.1 HI.out.2.1 HI.out.2.2.1 HI.out.2.2.2 rfl (by decide) _ _ _ rfl (HOW.out.alloc _) ⟨V.heap.size, 0, none⟩ 1 1 [.int .u8 d] rfl rfl (cell_one_new _ _ _) (by simp [Value.oneCell']) (by unfold maxLen; omega) (by omega) (by simp; omega) ?_; intro v' w1 hown1 hgrow1 _; obtain ⟨g9, cap9, rfl⟩ := own_some' hown1 (by omega); have hxa := grownB hgrow1 (heap_old _ HAX.out) HNE.out; have y1 := cell_of_heap hxa 1; have z1 := free_of_heap hxa 1; have HXA := Lib.hid hxa; have HO1 := Lib.hid hown1; have HG1 := Lib.hid hgrow1; simp at y1; clear hxa hown1 hgrow1)
      have hg1 := HG1.out
      have hb1 : Below (w.heap.size + 1) V w1 := ((Below.refl (w.heap.size + 1) V).alloc (by omega) _).grown hg1 (by simp; omega) ((own_from HOW.out).mono (by omega))
      refine ⟨(KeepsOthers.alloc V _).trans ((KeepsOthers.of_grownBy hg1 HCE.out).trans (KeepsOthers.setCell _ _ _)), ⟨hb1.setCell (p := ⟨w.heap.size + 1, 1, none⟩) (Nat.le_refl _) _, ?_⟩, ⟨.slice (some ⟨g9, 0, none⟩) (pre.length + 1) cap9, ?_, ?_⟩, (HBX.out.trans hb1).setCell (p := ⟨w.heap.size + 1, 1, none⟩) (Nat.le_refl _) _⟩
      · refine (Below.heap_setCell _ _ _ _ (by simp; omega)).trans ((hg1.block _ (by simp; omega) (fun e => ?_)).trans (Below.heap_alloc _ _ _ (by omega)))
        have := (HOW.out.lt _ e.symm).1
        omega
      · have := putB HXA.out 1 (.slice (some ⟨g9, 0, none⟩) (pre.length + 1) cap9)
        simpa using this
      · have h1 := own_setCell_other HO1.out ⟨w.heap.size + 1, 1, none⟩ (.slice (some ⟨g9, 0, none⟩) (pre.length + 1) cap9) (own_neB HO1.out (B := w.heap.size + 1) (by omega))
        rw [List.length_append, List.map_append]
        simp only [List.map_cons, List.map_nil]
        rw [HD.out]
        exact h1
    case done =>
      rintro D ys V hD rfl ⟨⟨v, ha, hown⟩, hB⟩ hK
      rw [dn_length _ _ (Nat.le_refl _), dn_rev u, HLU2.out] at hown
      obtain ⟨A, c, rfl, hc1, hc2, hr, hrl⟩ := own_row hown
      have HRW := Lib.hid hr
      have HFR := Lib.hid (own_from hown)
      have hcm : c ≤ 9223372036854775807 := by unfold maxLen at hc2; omega
      have a0 := cell_of_heap ha 0; have a1 := cell_of_heap ha 1; have a2 := cell_of_heap ha 2; have a3 := cell_of_heap ha 3
      have hr5 := (hB.block w.heap.size (by omega)).trans HR5.out
      have b0 := cell_of_heap hr5 0; have b1 := cell_of_heap hr5 1; have b2 := cell_of_heap hr5 2; have b3 := cell_of_heap hr5 3
      have z0 := free_of_heap hr5 0; have z1 := free_of_heap hr5 1; have z2 := free_of_heap hr5 2; have z3 := free_of_heap hr5 3
      simp at a0 a1 a2 a3 b0 b1 b2 b3
      have HR6 := Lib.hid hr5; have HBX := Lib.hid hB; have HK := Lib.hid hK
      have HC := Lib.hid (And.intro hc1 hcm)
      clear hr hc1 hc2 hcm hrl ha hown hr5 hB hK
      gi_wp2_with fail
      obtain ⟨F, hF, hb, hk, ho⟩ := amt_put (s := s) (n := u.length) (c := c) (A := A) (e := -222) (more := false) HR6.out
      rw [hF]
      have hK' : F.heap[D]? = some (.deferred (some [])) := (ho D (by omega)).trans HK.out
      have hkr : ∀ r, some D = some r → ∃ o : Obj, F.heap[r]? = some o ∧ o.isCells = false := fun r e => by cases e; exact ⟨_, hK', rfl⟩
      have hg := grownBy_putObj' F D (.deferred none)
      have hb' := heapKept hb hg hkr
      have r0 := cell_of_heap hb' 0; have r1 := cell_of_heap hb' 1; have r2 := cell_of_heap hb' 2; have r3 := cell_of_heap hb' 3
      simp at r0 r1 r2 r3
      have tp := total_pos (L := 430) HUU.out.2.1 HUU.out.2.2
      have hrow : Row .u8 F A u.reverse := row_keep HRW.out HFR.out (by omega) ho
      refine ⟨by simp, .inl ⟨_, _, rfl, run_takeDeferred hK', ?_⟩⟩
      refine ⟨.agg #[.bool s, .slice A u.length c, .int .i64 (-222), .bool false], ?_, _, u.reverse, rfl, ⟨A, c, by rw [List.length_reverse], HC.out.1, HC.out.2, row_kept hrow hg hkr⟩, tp.1, tp.2, by rw [List.length_reverse]; exact HUU.out.1, ?_⟩
      · simp [results, Tryz.results174, go_sem, r0, r1, r2, r3]
      · have h1 : Below w.heap.size W5 F := hk _ _ (Nat.le_refl _) (HBX.out.mono (by omega))
        have h2 : Below w.heap.size W5 (F.putObj D (.deferred none)) := h1.trans (belowK_b (w := W5) (by omega) F D _ _ (by omega) hK' rfl rfl)
        exact HKB5.out.trans' h2 (Nat.le_refl _)

theorem total_c (B : Nat) (t : List Int) (M : Int) (w : World) (hB : B < w.heap.size) (hc : Cols w B t) (ht : t.length = 430) (hM : TB M t) (hM0 : 0 ≤ M) (hM1 : M ≤ 1000000000000) (hV0 : -(10 ^ 430) < val 10 t) (hV1 : val 10 t < 10 ^ 430) :
    Calls Tryz.prog 174 #[.pointer (some ⟨B, 0, none⟩)] w fun en w' => ∃ v ds, en = .returned v ∧ Amt w' v (decide (val 10 t < 0)) ds (-222) false ∧ InR 10 ds ∧ vd ds = ((val 10 t).natAbs : Int) ∧ ds.length = 430 ∧ Kb B w w' :=
  callsIn_wide.1 (total_in B t M w hB hc ht hM hM0 hM1 hV0 hV1)
end Go.Proofs.YtekbfommnmikbaaGreatDoor
