/- The reference's Down. -/
import Derived.Test.YtbjgpbdkofadiaaGreatDoorRefM
import Derived.Deep.DrawnRows
namespace Go.Proofs.YtbjgpbdkofadiaaGreatDoor
set_option linter.unusedVariables false
set_option linter.unusedSimpArgs false
open Go.RowKit Go.Shelf
attribute [local go_sem ↓] Go.wp_at_zero Go.wp_at_succ

/-- All that lay in V lies there still, but for block g. -/
structure BX (V : World) (g : Nat) (w : World) : Prop where
  size_ : V.heap.size ≤ w.heap.size
  same : ∀ b, b < V.heap.size → b ≠ g → w.heap[b]? = V.heap[b]?
theorem BX.refl (V : World) (g : Nat) : BX V g V := ⟨Nat.le_refl _, fun _ _ _ => rfl⟩
theorem BX.call {V w w' : World} {g : Nat} (h : BX V g w) (hb : Below w.heap.size w w') : BX V g w' :=
  ⟨Nat.le_trans h.size_ hb.size, fun b h1 h2 => (hb.block b (Nat.lt_of_lt_of_le h1 h.size_)).trans (h.same b h1 h2)⟩
theorem BX.drew {V w : World} {g : Nat} (h : BX V g w) : BX V g w.drew := h.call (Below.refl _ _).drew
theorem BX.alloc {V w : World} {g : Nat} (h : BX V g w) (o : Obj) : BX V g (w.alloc o) := h.call ((Below.refl _ _).alloc (Nat.le_refl _) o)
theorem BX.set {V w : World} {g : Nat} (h : BX V g w) (i : Nat) (v : Value) : BX V g (w.setCell ⟨g, i, none⟩ v) :=
  ⟨by simpa using h.size_, fun b h1 h2 => (Below.heap_setCell _ _ _ _ h2).trans (h.same b h1 h2)⟩
theorem dg_bx {V w : World} {v : Value} {n g : Nat} {cs : Array Value} {t : TypeId} {fz : Nat × Nat} (h : Dg 10 V v n) (hbox : V.heap[g]? = some (.cells cs t fz)) (hcs : ∀ (i : Nat) x, cs[i]? = some x → NoI x) (hb : BX V g w) : Dg 10 w v n := by
  obtain ⟨A, c, rfl, h1, h2, hr⟩ := h
  by_cases h0 : dg 10 n = []
  · refine ⟨A, c, rfl, h1, h2, ?_⟩
    rw [h0]; exact Row.nil
  · refine Dg.same ⟨A, c, rfl, h1, h2, hr⟩ fun k hk => ?_
    have hl : 0 < (dg 10 n).length := List.length_pos_iff.2 h0
    obtain ⟨a, rfl, hc⟩ := hr 0 hl
    rw [addr_zero] at hc
    have hbk : a.block = k := by simpa [Value.ownBlock] using hk
    have hlt := World.block_lt_of_cell? _ _ hc
    refine hb.same k (by omega) fun e => ?_
    subst e
    unfold World.cell? at hc
    rw [hbk, hbox] at hc
    simp only [] at hc
    split at hc
    · cases hc
    · exact hcs _ _ hc _ _ rfl
theorem ri_bx {V w : World} {v : Value} {z : Int} {g : Nat} {cs : Array Value} {t : TypeId} {fz : Nat × Nat} (h : Ri V v z) (hbox : V.heap[g]? = some (.cells cs t fz)) (hcs : ∀ (i : Nat) x, cs[i]? = some x → NoI x) (hb : BX V g w) : Ri w v z := by
  obtain ⟨p, e, hp⟩ := h
  exact ⟨p, e, dg_bx hp hbox hcs hb⟩
theorem four_noi {x0 x1 x2 x3 : Value} (h0 : NoI x0) (h1 : NoI x1) (h2 : NoI x2) (h3 : NoI x3) : ∀ (i : Nat) x, (#[x0, x1, x2, x3] : Array Value)[i]? = some x → NoI x := by
  intro i x hi
  match i with
  | 0 => simp at hi; subst hi; exact h0
  | 1 => simp at hi; subst hi; exact h1
  | 2 => simp at hi; subst hi; exact h2
  | 3 => simp at hi; subst hi; exact h3
  | i + 4 => simp at hi
/-- A literal of one digit. -/
theorem dg_lit1 {w : World} {g c : Nat} {d : Nat} (hd : 0 < d) (hd9 : d < 10) (h : w.cell? ⟨g, 0, none⟩ = some (.int .i64 (d : Int))) (hc : 1 ≤ c) (hc2 : c ≤ 9223372036854775807) : Dg 10 w (.slice (some ⟨g, 0, none⟩) 1 c) d := by
  unfold Dg
  rw [dg_single (by decide) hd hd9]
  refine ⟨some ⟨g, 0, none⟩, c, rfl, hc, hc2, fun j hj => ?_⟩
  obtain rfl : j = 0 := by simpa using hj
  exact ⟨_, rfl, by rw [addr_zero]; exact h⟩
theorem lit1 (w : World) (t : TypeId) : (w.alloc (.cells #[.int .i64 1] t)).cell? ⟨w.heap.size, 0, none⟩ = some (.int .i64 1) := new_cell _ _ _ 0
theorem lit1d (w : World) (t : TypeId) : (w.alloc (.cells #[.int .i64 1] t)).drew.cell? ⟨w.heap.size, 0, none⟩ = some (.int .i64 1) := new_cell _ _ _ 0
theorem ri_minus_one {w : World} {g : Nat} (h : w.cell? ⟨g, 0, none⟩ = some (.int .i64 1)) : Ri w (.agg #[.slice (some ⟨g, 0, none⟩) 1 1, .bool true]) (-1) :=
  ⟨_, rfl, dg_lit1 (d := 1) (by decide) (by decide) h (by decide) (by decide)⟩

/-- A box of four cells, none of them a number. -/
def Bx4 (w : World) (g : Nat) : Prop := ∃ t x0 x1 x2 x3, w.heap[g]? = some (.cells #[x0, x1, x2, x3] t (0, 0)) ∧ NoI x0 ∧ NoI x1 ∧ NoI x2 ∧ NoI x3
theorem Bx4.call {w w' : World} {g : Nat} (h : Bx4 w g) (hb : Below w.heap.size w w') : Bx4 w' g := by
  obtain ⟨t, x0, x1, x2, x3, h, hs⟩ := h
  exact ⟨t, x0, x1, x2, x3, heap_below h hb, hs⟩
theorem Bx4.drew {w : World} {g : Nat} (h : Bx4 w g) : Bx4 w.drew g := h.call (Below.refl _ _).drew
theorem Bx4.alloc {w : World} {g : Nat} (h : Bx4 w g) (o : Obj) : Bx4 (w.alloc o) g := h.call ((Below.refl _ _).alloc (Nat.le_refl _) o)
theorem Bx4.lt {w : World} {g : Nat} (h : Bx4 w g) : g < w.heap.size := by
  obtain ⟨t, x0, x1, x2, x3, h, hs⟩ := h
  exact (Array.getElem?_eq_some_iff.1 h).1
theorem Bx4.free {w : World} {g : Nat} (h : Bx4 w g) (i : Nat) : w.frozen? ⟨g, i, none⟩ = false := by
  obtain ⟨t, x0, x1, x2, x3, h, hs⟩ := h
  exact free_of_heap h i
theorem Bx4.cells {w : World} {g : Nat} (h : Bx4 w g) : ∃ x0 x1 x2 x3, w.cell? ⟨g, 0, none⟩ = some x0 ∧ w.cell? ⟨g, 1, none⟩ = some x1 ∧ w.cell? ⟨g, 2, none⟩ = some x2 ∧ w.cell? ⟨g, 3, none⟩ = some x3 := by
  obtain ⟨t, x0, x1, x2, x3, h, hs⟩ := h
  exact ⟨x0, x1, x2, x3, cell_of_heap h 0, cell_of_heap h 1, cell_of_heap h 2, cell_of_heap h 3⟩
theorem Bx4.set {w : World} {g : Nat} (h : Bx4 w g) (i : Nat) {v : Value} (hv : NoI v) : Bx4 (w.setCell ⟨g, i, none⟩ v) g := by
  obtain ⟨t, x0, x1, x2, x3, h, n0, n1, n2, n3⟩ := h
  have h1 := box_put h i v
  match i with
  | 0 => exact ⟨t, v, x1, x2, x3, by simpa using h1, hv, n1, n2, n3⟩
  | 1 => exact ⟨t, x0, v, x2, x3, by simpa using h1, n0, hv, n2, n3⟩
  | 2 => exact ⟨t, x0, x1, v, x3, by simpa using h1, n0, n1, hv, n3⟩
  | 3 => exact ⟨t, x0, x1, x2, v, by simpa using h1, n0, n1, n2, hv⟩
  | i + 4 => exact ⟨t, x0, x1, x2, x3, by rw [h1]; simp [Array.setIfInBounds], n0, n1, n2, n3⟩
/-- Four stores into such a box. -/
theorem pr_put {V : World} {g n c n' c' : Nat} {A A' : Option Addr} {b b' : Bool} {x y : Int} (hx : Ri V (.agg #[.slice A n c, .bool b]) x) (hy : Ri V (.agg #[.slice A' n' c', .bool b']) y) (hb : Bx4 V g) :
    ∃ F, (((V.setCell ⟨g, 0, none⟩ (.slice A n c)).setCell ⟨g, 1, none⟩ (.bool b)).setCell ⟨g, 2, none⟩ (.slice A' n' c')).setCell ⟨g, 3, none⟩ (.bool b') = F ∧ F.cell? ⟨g, 0, none⟩ = some (.slice A n c) ∧ F.cell? ⟨g, 1, none⟩ = some (.bool b) ∧ F.cell? ⟨g, 2, none⟩ = some (.slice A' n' c') ∧ F.cell? ⟨g, 3, none⟩ = some (.bool b')
      ∧ Pr F (.agg #[.slice A n c, .bool b, .slice A' n' c', .bool b']) x y ∧ (∀ k w0, k ≤ g → Below k w0 V → Below k w0 F) := by
  obtain ⟨t, x0, x1, x2, x3, h0, n0, n1, n2, n3⟩ := hb
  have h1 := box_put h0 0 (.slice A n c)
  rw [show (#[x0, x1, x2, x3] : Array Value).setIfInBounds 0 (.slice A n c) = #[.slice A n c, x1, x2, x3] by simp] at h1
  have h2 := box_put h1 1 (.bool b)
  rw [show (#[.slice A n c, x1, x2, x3] : Array Value).setIfInBounds 1 (.bool b) = #[.slice A n c, .bool b, x2, x3] by simp] at h2
  have h3 := box_put h2 2 (.slice A' n' c')
  rw [show (#[.slice A n c, .bool b, x2, x3] : Array Value).setIfInBounds 2 (.slice A' n' c') = #[.slice A n c, .bool b, .slice A' n' c', x3] by simp] at h3
  have h4 := box_put h3 3 (.bool b')
  rw [show (#[.slice A n c, .bool b, .slice A' n' c', x3] : Array Value).setIfInBounds 3 (.bool b') = #[.slice A n c, .bool b, .slice A' n' c', .bool b'] by simp] at h4
  have go : ∀ {v : Value} {m : Nat}, Dg 10 V v m → Dg 10 ((((V.setCell ⟨g, 0, none⟩ (.slice A n c)).setCell ⟨g, 1, none⟩ (.bool b)).setCell ⟨g, 2, none⟩ (.slice A' n' c')).setCell ⟨g, 3, none⟩ (.bool b')) v m := fun h =>
    dg_put (dg_put (dg_put (dg_put h h0 (four_noi n0 n1 n2 n3) _ _) h1 (four_noi (noi_slice _ _ _) n1 n2 n3) _ _) h2 (four_noi (noi_slice _ _ _) (noi_bool _) n2 n3) _ _) h3 (four_noi (noi_slice _ _ _) (noi_bool _) (noi_slice _ _ _) n3) _ _
  obtain ⟨p, e, hp⟩ := hx
  obtain ⟨q, e', hq⟩ := hy
  exact ⟨_, rfl, cell_of_heap h4 0, cell_of_heap h4 1, cell_of_heap h4 2, cell_of_heap h4 3, ⟨_, _, _, _, rfl, ⟨p, e, go hp⟩, ⟨q, e', go hq⟩⟩, fun k w0 hk hb => (((hb.setCell hk _).setCell hk _).setCell hk _).setCell hk _⟩

set_option maxRecDepth 100000 in
set_option maxHeartbeats 4000000 in
theorem rdown_c (v1 v2 : Value) (x y : Int) (w : World) (h1 : Ri w v1 x) (h2 : Ri w v2 y) (hy : y ≠ 0) (hm : (dg 10 x.natAbs).length ≤ 1000000) (hn : (dg 10 y.natAbs).length ≤ 999999) :
    Calls Tryz.prog 30 #[v1, v2] w (PrP (x.fdiv y) (x.fmod y) w) := by
  obtain ⟨A1, n1, c1, bx, rfl⟩ := h1.form
  obtain ⟨A2, n2, c2, by_, rfl⟩ := h2.form
  obtain ⟨-, hby⟩ := ri_parts h2
  have HM := Lib.hid (And.intro hm (And.intro hn hy))
  obtain ⟨W, hW, hh0, hh1, hh2, hbel, hsz⟩ := boxes3h w #[.slice A1 n1 c1, .bool bx] #[.slice A2 n2 c2, .bool by_] #[.slice none 0 0, .bool false, .slice none 0 0, .bool false] 32 32 42
  have c00 := cell_of_heap hh0 0; have c01 := cell_of_heap hh0 1; have c10 := cell_of_heap hh1 0; have c11 := cell_of_heap hh1 1
  simp at c00 c01 c10 c11
  have HX := Lib.hid (h1.below hbel.to)
  have HY := Lib.hid (h2.below hbel.to)
  have HH2 := Lib.hid hh2
  have HBEL := Lib.hid hbel.to
  have HSZ := Lib.hid hsz
  have HBY := Lib.hid hby
  clear hh0 hh1 hh2 hbel hsz h1 h2 hm hn hby hy
  go_enter Tryz.func30, Tryz.ntmps30
  go_upto_region 2 with (go_at_call 29; (with_reducible refine (rcut_c _ _ x y _ HX.out HY.out HM.out.2.2 HM.out.1 HM.out.2.1).mono ?_); rintro e W2 ⟨u, rfl, hu, hbz⟩; obtain ⟨A3, n3, c3, b3, A4, n4, c4, b4, rfl⟩ := hu.form; have HU := Lib.hid hu.parts; have HB2 := Lib.hid hbz; clear hbz hu)
  obtain ⟨hn4, hb4⟩ := ri_parts HU.out.2
  have HN4 := Lib.hid hn4; have HB4 := Lib.hid hb4
  obtain ⟨V, hV⟩ : ∃ V, W2.alloc (.cells #[.slice A3 n3 c3, .bool b3, .slice A4 n4 c4, .bool b4] 42) = V := ⟨_, rfl⟩
  rw [hV]
  have hb5 : V.heap[W2.heap.size]? = some (.cells #[.slice A3 n3 c3, .bool b3, .slice A4 n4 c4, .bool b4] 42 (0, 0)) := by rw [← hV]; exact heap_alloc_new _ _
  have hB2V : Below W2.heap.size W2 V := by rw [← hV]; exact (Below.refl _ _).alloc (Nat.le_refl _) _
  have hBWV := below_then' HB2.out hB2V
  have HBV := Lib.hid (below_then' HBEL.out hBWV)
  have HQV := Lib.hid (HU.out.1.below hB2V)
  have HRV := Lib.hid (HU.out.2.below hB2V)
  have HYV := Lib.hid (HY.out.below hBWV)
  have HH3 := Lib.hid (heap_below HH2.out hBWV)
  have HBX : Hid (Bx4 V (w.heap.size + 1 + 1)) := ⟨_, _, _, _, _, HH3.out, noi_slice _ _ _, noi_bool _, noi_slice _ _ _, noi_bool _⟩
  have f20 := free_of_heap HH3.out 0; have f21 := free_of_heap HH3.out 1; have f22 := free_of_heap HH3.out 2; have f23 := free_of_heap HH3.out 3
  have a20 := cell_of_heap HH3.out 0; have a21 := cell_of_heap HH3.out 1; have a22 := cell_of_heap HH3.out 2; have a23 := cell_of_heap HH3.out 3
  simp at a20 a21 a22 a23
  have p0 := cell_of_heap hb5 0; have p1 := cell_of_heap hb5 1; have p2 := cell_of_heap hb5 2; have p3 := cell_of_heap hb5 3
  simp at p0 p1 p2 p3
  have c10 := keep_cell hBWV c10; have c11 := keep_cell hBWV c11; have c00 := keep_cell hBWV c00
  obtain ⟨PB, hPB⟩ : ∃ PB, W2.heap.size = PB := ⟨_, rfl⟩
  rw [hPB] at p0 p1 p2 p3 ⊢
  have hlt : w.heap.size + 1 + 1 < PB := by rw [← hPB]; have := HB2.out.size; have := HSZ.out; omega
  have HPB := Lib.hid hPB
  clear hV hb5 hB2V hBWV hn4 hb4 hPB HH2 HU HX HY
  by_cases hr0 : x.tmod y = 0
  · have HF := Lib.hid (fdiv_same HM.out.2.2 (.inl hr0))
    obtain rfl : n4 = 0 := by rw [HN4.out, hr0, Int.natAbs_zero, dg_zero]; rfl
    clear hr0
    go_wp2_with fail
    all_goals
      obtain ⟨F, hF, r0, r1, r2, r3, hp, hbf⟩ := pr_put HQV.out HRV.out HBX.out
      rw [hF]
      refine bodyPost_ret (v := .agg #[.slice A3 n3 c3, .bool b3, .slice A4 0 c4, .bool b4]) (by simp [results, Tryz.results30, go_sem, r0, r1, r2, r3]) rfl ?_
      exact ⟨_, rfl, by rw [HF.out.1, HF.out.2]; exact hp, hbf _ _ (by omega) HBV.out⟩
  · have hnp : ((0 : Int) < (n4 : Int)) := by
      have h := dg_eq_nil (b := 10) (n := (x.tmod y).natAbs) (by decide)
      rw [← List.length_eq_zero_iff, ← HN4.out] at h; omega
    have hnd : decide ((0 : Int) < (n4 : Int)) = true := decide_eq_true hnp
    by_cases hs : b4 = by_
    · have HF := Lib.hid (fdiv_same HM.out.2.2 (.inr (by have h := hs; rw [HB4.out, HBY.out] at h; simpa using h)))
      subst hs
      clear hr0
      go_wp2_with fail
      all_goals
        obtain ⟨F, hF, r0, r1, r2, r3, hp, hbf⟩ := pr_put HQV.out HRV.out HBX.out
        rw [hF]
        refine bodyPost_ret (v := .agg #[.slice A3 n3 c3, .bool b3, .slice A4 n4 c4, .bool b4]) (by simp [results, Tryz.results30, go_sem, r0, r1, r2, r3]) rfl ?_
        exact ⟨_, rfl, by rw [HF.out.1, HF.out.2]; exact hp, hbf _ _ (by omega) HBV.out⟩
    · have HF := Lib.hid (fdiv_diff HM.out.2.2 hr0 (by have h := hs; rw [HB4.out, HBY.out] at h; simpa using h))
      have hbb : (b4 == by_) = false := by simpa using hs
      clear hr0 hs
      go_wp2_with fail
      have HXQ : Hid (∀ w', BX V (w.heap.size + 1 + 1) w' → Ri w' (.agg #[.slice A3 n3 c3, .bool b3]) (x.tdiv y)) := fun w' h => ri_bx HQV.out HH3.out (four_noi (noi_slice _ _ _) (noi_bool _) (noi_slice _ _ _) (noi_bool _)) h
      have HXR : Hid (∀ w', BX V (w.heap.size + 1 + 1) w' → Ri w' (.agg #[.slice A4 n4 c4, .bool b4]) (x.tmod y)) := fun w' h => ri_bx HRV.out HH3.out (four_noi (noi_slice _ _ _) (noi_bool _) (noi_slice _ _ _) (noi_bool _)) h
      have HXY : Hid (∀ w', BX V (w.heap.size + 1 + 1) w' → Ri w' (.agg #[.slice A2 n2 c2, .bool by_]) y) := fun w' h => ri_bx HYV.out HH3.out (four_noi (noi_slice _ _ _) (noi_bool _) (noi_slice _ _ _) (noi_bool _)) h
      have HL1 : Hid ((dg 10 (x.tdiv y).natAbs).length ≤ 1000000) := by show _ ≤ _; have := dg_length_mono (b := 10) (by decide) (show (x.tdiv y).natAbs ≤ x.natAbs from by rw [Int.natAbs_tdiv]; exact Nat.div_le_self _ _); have := HM.out.1; omega
      have HL2 : Hid ((dg 10 (x.tmod y).natAbs).length ≤ 1000000) := by show _ ≤ _; have := dg_length_mono (b := 10) (by decide) (show (x.tmod y).natAbs ≤ x.natAbs from by rw [Int.natAbs_tmod]; exact Nat.mod_le _ _); have := HM.out.1; omega
      have HL3 : Hid ((dg 10 y.natAbs).length ≤ 1000000) := by show _ ≤ _; have := HM.out.2.1; omega
      have HL4 : Hid ((dg 10 (-1 : Int).natAbs).length ≤ 1000000) := by show _ ≤ _; decide +kernel
      have b0 := BX.refl V (w.heap.size + 1 + 1)
      have b1 := HBX.out
      have b2 : Bel w.heap.size w V := ⟨HBV.out, Nat.le_refl _⟩
      have hne1 : w.heap.size + 1 + 1 ≠ PB := by omega
      have hne2 : w.heap.size + 1 + 1 ≠ w.heap.size + 1 := by omega
      have HV1 := Lib.hid True.intro; have HV2 := Lib.hid True.intro; have HBX9 := Lib.hid True.intro
      have hge1 : w.heap.size ≤ w.heap.size + 1 + 1 := by omega
      clear f20 f21 f22 f23 a20 a21 a22 a23 c00 c01
      go_region_held3 (fun w' => w'.cell? ⟨PB, 0, none⟩ = some (.slice A3 n3 c3) ∧ w'.cell? ⟨PB, 1, none⟩ = some (.bool b3) ∧ w'.cell? ⟨PB, 2, none⟩ = some (.slice A4 n4 c4) ∧ w'.cell? ⟨PB, 3, none⟩ = some (.bool b4) ∧ w'.cell? ⟨w.heap.size + 1, 0, none⟩ = some (.slice A2 n2 c2) ∧ w'.cell? ⟨w.heap.size + 1, 1, none⟩ = some (.bool by_) ∧ BX V (w.heap.size + 1 + 1) w' ∧ Bx4 w' (w.heap.size + 1 + 1) ∧ Bel w.heap.size w w')
        ((go_split_ands; and_intros <;> (first | (with_reducible assumption) | ((repeat (first | (with_reducible assumption) | (with_reducible refine set_far _ (by first | exact hne1 | exact hne2 | (simp; done) | (simp; omega)) ?_) | (with_reducible refine keep_cell hbz ?_) | (with_reducible refine keep_cell ((Below.refl _ _).alloc (Nat.le_refl _) _) ?_) | (with_reducible refine keep_cell (Below.refl _ _).drew ?_) | (with_reducible refine Bel.call ?_ hbz) | (with_reducible refine Bel.alloc ?_ _) | (with_reducible refine Bel.drew ?_) | (with_reducible refine Bel.set ?_ _ (by first | exact hge1 | (simp; done) | (simp; omega))) | (with_reducible refine BX.call ?_ hbz) | (with_reducible refine BX.alloc ?_ _) | (with_reducible refine BX.drew ?_) | (with_reducible refine BX.set ?_ _ _) | (with_reducible refine Bx4.call ?_ hbz) | (with_reducible refine Bx4.alloc ?_ _) | (with_reducible refine Bx4.drew ?_) | (with_reducible refine Bx4.set ?_ _ (by first | exact noi_slice _ _ _ | exact noi_bool _)))); done) | (trace_state; fail))))
        (first
          | (go_at_call 47; (with_reducible refine (rsum_c (.agg #[.slice A3 n3 c3, .bool b3]) _ (x.tdiv y) (-1) _ (HXQ.out _ ?_) (ri_minus_one ?_) HL1.out HL4.out).mono ?_); (go_split_ands; with_reducible assumption); (first | (with_reducible exact lit1 _ _) | (with_reducible exact lit1d _ _) | (with_reducible assumption)); rintro e w' ⟨u, rfl, hu, hbz⟩; obtain ⟨A5, n5, c5, b5, rfl⟩ := hu.form; have HV1 := Lib.hid hu; (try have HV2 := Lib.hid (HV2.out.below hbz)); go_split_ands; have HBX9 := Lib.hid (Bx4.call (g := w.heap.size + 1 + 1) (by assumption) hbz); have HBL9 := Lib.hid (Bel.call (show Bel w.heap.size w _ by assumption) hbz); clear hu)
          | (go_at_call 47; (with_reducible refine (rsum_c (.agg #[.slice A4 n4 c4, .bool b4]) (.agg #[.slice A2 n2 c2, .bool by_]) (x.tmod y) y _ (HXR.out _ ?_) (HXY.out _ ?_) HL2.out HL3.out).mono ?_); (go_split_ands; with_reducible assumption); (go_split_ands; with_reducible assumption); rintro e w' ⟨u, rfl, hu, hbz⟩; obtain ⟨A6, n6, c6, b6, rfl⟩ := hu.form; have HV2 := Lib.hid hu; (try have HV1 := Lib.hid (HV1.out.below hbz)); (try have hl1 := keep_cell hbz (lit1 _ _)); (try have hl1 := keep_cell hbz (lit1d _ _)); go_split_ands; have HBX9 := Lib.hid (Bx4.call (g := w.heap.size + 1 + 1) (by assumption) hbz); have HBL9 := Lib.hid (Bel.call (show Bel w.heap.size w _ by assumption) hbz); clear hu)
          | (obtain ⟨z0, z1, z2, z3, y0, y1, y2, y3⟩ := HBX9.out.cells; have g0 := HBX9.out.free 0; have g1 := HBX9.out.free 1; have g2 := HBX9.out.free 2; have g3 := HBX9.out.free 3; go_simp))
      all_goals
        go_wp2_with fail
        obtain ⟨F, hF, r0, r1, r2, r3, hp, hbf⟩ := pr_put HV1.out HV2.out HBX9.out
        rw [hF]
        refine bodyPost_ret (v := .agg #[.slice A5 n5 c5, .bool b5, .slice A6 n6 c6, .bool b6]) (by simp [results, Tryz.results30, go_sem, r0, r1, r2, r3]) rfl ?_
        exact ⟨_, rfl, by rw [HF.out.1, HF.out.2]; exact hp, hbf _ _ (by omega) HBL9.out.to⟩
end Go.Proofs.YtbjgpbdkofadiaaGreatDoor
