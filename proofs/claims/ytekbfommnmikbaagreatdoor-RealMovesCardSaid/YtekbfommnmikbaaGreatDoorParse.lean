/- Package real: Parse. -/
import Derived.Test.YtekbfommnmikbaaGreatDoorExpo
import Derived.Laws.AppendOwnNone
namespace Go.Proofs.YtekbfommnmikbaaGreatDoor
set_option linter.unusedVariables false
set_option linter.unusedSimpArgs false
open Go.RowKit Go.Shelf Go.Proofs Go.Sort
attribute [local go_sem ↓] Go.wp_at_zero Go.wp_at_succ

/-- Behind the digits: a point and digits. -/
def dotL (l : List UInt8) : List UInt8 × Bool × List UInt8 :=
  if (skipL (inL [46]) l).1.isEmpty then ([], true, l) else ((skipL (inL [46]) l).2.takeWhile isD, !((skipL (inL [46]) l).2.takeWhile isD).isEmpty, (skipL (inL [46]) l).2.dropWhile isD)
/-- Behind them: e, a sign, digits. -/
def eeL (l : List UInt8) : Int × Bool × List UInt8 :=
  if (skipL (inL [101]) l).1.isEmpty then (0, true, l) else (expV (skipL (inL [101]) l).2, !(esL (skipL (inL [101]) l).2).isEmpty, erL (skipL (inL [101]) l).2)
def pNeg (l : List UInt8) : Bool := !(skipL (inL [45]) l).1.isEmpty
def pDs (l : List UInt8) : List UInt8 := (skipL (inL [45]) l).2.takeWhile isD
def pDot (l : List UInt8) : List UInt8 × Bool × List UInt8 := dotL ((skipL (inL [45]) l).2.dropWhile isD)
def pEe (l : List UInt8) : Int × Bool × List UInt8 := eeL (pDot l).2.2
def pGood (l : List UInt8) : Bool := decide (l.length ≤ 80) && !(pDs l).isEmpty && (pDot l).2.1 && (pEe l).2.1
/-- What Parse returns. -/
def parseR (l : List UInt8) : Value :=
  if pGood l = true ∧ (pEe l).2.2 = [] then resR (pNeg l) (rnd (vd (dvs (pDs l ++ (pDot l).1))).toNat (-((pDot l).1.length : Int) + (pEe l).1))
  else .tuple #[.agg #[.int .i64 0, .int .i64 0], .int .i64 7]

theorem dvs_append (a b : List UInt8) : dvs (a ++ b) = dvs a ++ dvs b := by unfold dvs; rw [List.map_append]
theorem dvs_inR {l : List UInt8} (h : ∀ b ∈ l, isD b = true) : InR 10 (dvs l) := fun x hx => by
  unfold dvs at hx
  obtain ⟨b, hb, rfl⟩ := List.mem_map.1 hx
  exact isD_val (h b hb)

/-- The boxes while a text is read: the scanner (block B), the amount (block A), the result (block R). -/
structure Ps (w : World) (B A R base : Nat) (l : List UInt8) (g : Bool) (neg : Bool) (ds : List UInt8) (e : Int) (wx : World) : Prop where
  sc : Sc B l g wx
  am : ∃ v, wx.heap[A]? = some (.cells #[.bool neg, v, .int .i64 e, .bool false] 95 (0, 0)) ∧ wx.ownsRow base 5 1 v ds.length ((dvs ds).map (Value.int .u8))
  res : wx.heap[R]? = some (.cells #[.int .i64 0, .int .i64 0] 23 (0, 0))
  bel : Below w.heap.size w wx

theorem sc_lt {B : Nat} {l : List UInt8} {g : Bool} {w : World} (h : Sc B l g w) : B < w.heap.size := (Array.getElem?_eq_some_iff.1 h).1
theorem dvs_len (l : List UInt8) : (dvs l).length = l.length := by unfold dvs; rw [List.length_map]
theorem news_of {w : World} {ad : Addr} {xs : List Int} (h : Row .u8 w (some ad) xs) : ∀ (j : Nat) (u : Value), (xs.map (Value.int .u8))[j]? = some u → w.cell? (ad.add j) = some u := fun j u hu => by
  rw [List.getElem?_map] at hu
  cases hx : xs[j]? with
  | none => rw [hx] at hu; cases hu
  | some x =>
    rw [hx] at hu
    cases hu
    have hj : j < xs.length := (List.getElem?_eq_some_iff.1 hx).1
    obtain ⟨a, e, hc⟩ := h j hj
    cases e
    rw [hc, hx]; rfl
theorem one_cells {xs : List Int} : ∀ u ∈ xs.map (Value.int .u8), u.oneCell' = true := fun u hu => by
  obtain ⟨x, -, rfl⟩ := List.mem_map.1 hu
  rfl
theorem skip_same {f : UInt8 → Bool} {l : List UInt8} (h : (skipL f l).1.isEmpty = true) : (skipL f l).2 = l := by
  cases l with
  | nil => rfl
  | cons b t =>
    have e : skipL f (b :: t) = if f b = true then ([b], t) else ([], b :: t) := rfl
    rw [e] at h ⊢
    by_cases hb : f b = true
    · rw [if_pos hb] at h; cases h
    · rw [if_neg hb]
/-- The blocks are others; the amount's digits lie behind. -/
structure Pb (w : World) (B A R base : Nat) : Prop where
  ab : A ≠ B
  rb : R ≠ B
  ar : A ≠ R
  b : B < base
  a : A < base
  r : R < base
  wb : w.heap.size ≤ B
  wa : w.heap.size ≤ A
  wbase : w.heap.size ≤ base
theorem Ps.kb {w wx wy : World} {B A R base : Nat} {l l' : List UInt8} {g g' neg : Bool} {ds : List UInt8} {e : Int} (h : Ps w B A R base l g neg ds e wx) (p : Pb w B A R base) (hs : Sc B l' g' wy) (hk : Kb B wx wy) : Ps w B A R base l' g' neg ds e wy := by
  obtain ⟨v, ha, ho⟩ := h.am
  have hB : B < wx.heap.size := (Array.getElem?_eq_some_iff.1 h.sc).1
  exact ⟨hs, ⟨v, hk.heap ha p.ab, own_Kb ho hk p.b⟩, hk.heap h.res p.rb, h.bel.trans ((hk.below hB).mono p.wb)⟩
theorem Ps.put {w wx : World} {B A R base : Nat} {l : List UInt8} {g neg : Bool} {ds ds' : List UInt8} {e : Int} (h : Ps w B A R base l g neg ds e wx) (p : Pb w B A R base) {v : Value} (ho : wx.ownsRow base 5 1 v ds'.length ((dvs ds').map (Value.int .u8))) : Ps w B A R base l g neg ds' e (wx.setCell ⟨A, 1, none⟩ v) := by
  obtain ⟨v0, ha, -⟩ := h.am
  exact ⟨(Below.heap_setCell _ _ _ _ p.ab.symm).trans h.sc, ⟨v, putB ha 1 v, own_setCell_other ho ⟨A, 1, none⟩ v (own_neB ho p.a)⟩, (Below.heap_setCell _ _ _ _ p.ar.symm).trans h.res, h.bel.setCell (p := ⟨A, 1, none⟩) p.wa v⟩
theorem Ps.putE {w wx : World} {B A R base : Nat} {l : List UInt8} {g neg : Bool} {ds : List UInt8} {e : Int} (h : Ps w B A R base l g neg ds e wx) (p : Pb w B A R base) (e' : Int) : Ps w B A R base l g neg ds e' (wx.setCell ⟨A, 2, none⟩ (.int .i64 e')) := by
  obtain ⟨v0, ha, ho⟩ := h.am
  exact ⟨(Below.heap_setCell _ _ _ _ p.ab.symm).trans h.sc, ⟨v0, putB ha 2 _, own_setCell_other ho ⟨A, 2, none⟩ _ (own_neB ho p.a)⟩, (Below.heap_setCell _ _ _ _ p.ar.symm).trans h.res, h.bel.setCell (p := ⟨A, 2, none⟩) p.wa _⟩
theorem Ps.grown {w wx wy : World} {B A R base : Nat} {l : List UInt8} {g neg : Bool} {ds : List UInt8} {e : Int} (h : Ps w B A R base l g neg ds e wx) (p : Pb w B A R base) {v v' : Value} {ds' : List UInt8} (ho : wx.ownsRow base 5 1 v ds.length ((dvs ds).map (Value.int .u8))) (hg : wx.grownBy wy v.ownBlock) (hz : base ≤ wx.heap.size) (ho' : wy.ownsRow base 5 1 v' ds'.length ((dvs ds').map (Value.int .u8))) : Ps w B A R base l g neg ds' e (wy.setCell ⟨A, 1, none⟩ v') := by
  obtain ⟨v0, ha, -⟩ := h.am
  have ha' := grownB hg ha (own_neB ho p.a)
  have hr' := grownB hg h.res (own_neB ho p.r)
  have hs' := grownB hg h.sc (own_neB ho p.b)
  have hb' := h.bel.grown hg h.bel.size ((own_from ho).mono p.wbase)
  exact ⟨(Below.heap_setCell _ _ _ _ p.ab.symm).trans hs', ⟨v', putB ha' 1 v', own_setCell_other ho' ⟨A, 1, none⟩ v' (own_neB ho' p.a)⟩, (Below.heap_setCell _ _ _ _ p.ar.symm).trans hr', hb'.setCell (p := ⟨A, 1, none⟩) p.wa v'⟩
theorem Ps.alloc {w wx : World} {B A R base : Nat} {l : List UInt8} {g neg : Bool} {ds : List UInt8} {e : Int} (h : Ps w B A R base l g neg ds e wx) (o : Obj) : Ps w B A R base l g neg ds e (wx.alloc o) := by
  obtain ⟨v0, ha, ho⟩ := h.am
  exact ⟨heap_old _ h.sc, ⟨v0, heap_old _ ha, ho.alloc _⟩, heap_old _ h.res, h.bel.alloc h.bel.size _⟩
theorem Ps.drew {w wx : World} {B A R base : Nat} {l : List UInt8} {g neg : Bool} {ds : List UInt8} {e : Int} (h : Ps w B A R base l g neg ds e wx) : Ps w B A R base l g neg ds e wx.drew := by
  obtain ⟨v0, ha, ho⟩ := h.am
  exact ⟨h.sc, ⟨v0, ha, ho.drew⟩, h.res, h.bel.drew⟩

set_option maxRecDepth 100000 in
set_option maxHeartbeats 8000000 in
theorem parseR_c (l : List UInt8) (w : World) (hl : l.length ≤ 1000000000000) :
    Calls Tryz.prog 28 #[.string ⟨l.toArray⟩] w fun en w' => en = .returned (parseR l) ∧ Below w.heap.size w w' := by
  obtain ⟨W, hW, k0, hbel⟩ := bx1h w #[.int .i64 0, .int .i64 0] 23
  have hsz : W.heap.size = w.heap.size + 1 := by rw [← hW]; simp
  have HSZ := Lib.hid hsz
  have HBEL := Lib.hid hbel; have HK0 := Lib.hid k0
  obtain ⟨S, hS⟩ : ∃ S : ByteArray, ⟨l.toArray⟩ = S := ⟨_, rfl⟩
  obtain ⟨n, hn⟩ : ∃ n, l.length = n := ⟨_, rfl⟩
  have hsn : S.size = n := by rw [← hS, ← hn]; rfl
  obtain ⟨g0, hg0⟩ : ∃ g, decide ((n : Int) ≤ 80) = g := ⟨_, rfl⟩
  have HSC0 : Hid (Sc W.heap.size l g0 (W.alloc (.cells #[.string S, .bool g0] 104))) := by show Sc _ _ _ _; unfold Sc; rw [hS]; exact heap_alloc_new _ _
  have HLL := Lib.hid hl
  have HSK := Lib.hid (fun (of r : List UInt8) (g : Bool) (w' : World) (hs : Sc W.heap.size r g w') (hr : r.length ≤ l.length) => skip_c W.heap.size r of g w' hs (Nat.le_trans hr HLL.out))
  obtain ⟨q1, hq1⟩ : ∃ q, (skipL (inL [45]) l).1 = q := ⟨_, rfl⟩
  obtain ⟨l1, hl1⟩ : ∃ q, (skipL (inL [45]) l).2 = q := ⟨_, rfl⟩
  have hln1 := skip_len (inL [45]) l
  obtain ⟨S1, hS1⟩ : ∃ S : ByteArray, ⟨q1.toArray⟩ = S := ⟨_, rfl⟩
  obtain ⟨n1, hn1⟩ : ∃ n1, q1.isEmpty = n1 := ⟨_, rfl⟩
  have hse1 : S1.toList.isEmpty = n1 := by rw [ByteArray.toList_eq, ← hS1]; exact hn1
  have HS1 : Hid (Calls Tryz.prog 95 #[.pointer (some ⟨W.heap.size, 0, none⟩), .string ⟨#[45]⟩] (W.alloc (.cells #[.string S, .bool g0] 104)) fun en w2 => en = .returned (.string S1) ∧ Sc W.heap.size l1 g0 w2 ∧ Kb W.heap.size (W.alloc (.cells #[.string S, .bool g0] 104)) w2) := by
    have h := HSK.out [45] l g0 _ HSC0.out (Nat.le_refl _)
    rw [hq1, hl1, hS1] at h
    exact h
  rw [hl1] at hln1
  clear k0 hbel hsz hl
  rw [hS]
  go_enter Tryz.func28, Tryz.ntmps28
  go_upto_region 3 with (first
    | (go_at_call 95; (with_reducible refine (HS1.out).mono ?_); rintro en w2 ⟨rfl, hsc, hkb⟩; have HSC1 := Lib.hid hsc; have HKB1 := Lib.hid hkb; clear hsc hkb))
  obtain ⟨neg, hneg⟩ : ∃ neg, (!n1) = neg := ⟨_, rfl⟩
  rw [hneg]
  obtain ⟨W3, hW3⟩ : ∃ W3, w2.alloc (.cells #[.bool neg, .slice none 0 0, .int .i64 0, .bool false] 95) = W3 := ⟨_, rfl⟩
  rw [hW3]
  have hz2 : W.heap.size < w2.heap.size := (Array.getElem?_eq_some_iff.1 HSC1.out).1
  have hz3 : W3.heap.size = w2.heap.size + 1 := by rw [← hW3]; simp
  have PB : Pb w W.heap.size w2.heap.size w.heap.size W3.heap.size := by
    have := HSZ.out
    exact ⟨by omega, by omega, by omega, by omega, by omega, by omega, by omega, by omega, by omega⟩
  have HPB := Lib.hid PB
  have ps3 : Ps w W.heap.size w2.heap.size w.heap.size W3.heap.size l1 g0 neg [] 0 W3 := by
    have hb0 : Below w.heap.size w w2 := HBEL.out.trans (((Below.refl W.heap.size W).alloc (Nat.le_refl _) _).trans (HKB1.out.below (by simp)) |>.mono (by have := HSZ.out; omega))
    rw [← hW3]
    exact ⟨heap_old _ HSC1.out, ⟨_, heap_alloc_new _ _, World.ownsRow_nil _ _ _ _⟩, heap_old _ (HKB1.out.heap (heap_old _ HK0.out) PB.rb), hb0.alloc hb0.size _⟩
  have HPS3 := Lib.hid ps3
  clear hW3 PB ps3
  have HLP := Lib.hid (show l1.length ≤ l.length from hln1)
  have HLM := Lib.hid (show l1.length ≤ 1000000000000 from Nat.le_trans hln1 HLL.out)
  obtain ⟨ds, hds⟩ : ∃ ds, l1.takeWhile isD = ds := ⟨_, rfl⟩
  obtain ⟨l2, hl2⟩ : ∃ r, l1.dropWhile isD = r := ⟨_, rfl⟩
  have hl2n : l2.length ≤ l1.length := by rw [← hl2]; exact (List.dropWhile_sublist _).length_le
  have hdsn : ds.length ≤ l1.length := by rw [← hds]; exact (List.takeWhile_sublist _).length_le
  have hdsi : ∀ b ∈ ds, isD b = true := fun b hb => by rw [← hds] at hb; exact mem_tw hb
  obtain ⟨g2, hg2⟩ : ∃ g, (g0 && !ds.isEmpty) = g := ⟨_, rfl⟩
  have HD1 := Lib.hid (digits_c W.heap.size l1 g0 W3 HPS3.out.sc (by omega) HLM.out)
  rw [hds, hl2, hg2] at HD1
  obtain ⟨q2, hq2⟩ : ∃ q, (skipL (inL [46]) l2).1 = q := ⟨_, rfl⟩
  obtain ⟨t2, ht2⟩ : ∃ q, (skipL (inL [46]) l2).2 = q := ⟨_, rfl⟩
  have ht2n := skip_len (inL [46]) l2
  obtain ⟨S2, hS2⟩ : ∃ S : ByteArray, ⟨q2.toArray⟩ = S := ⟨_, rfl⟩
  obtain ⟨n2, hn2⟩ : ∃ n, q2.isEmpty = n := ⟨_, rfl⟩
  have hse2 : S2.toList.isEmpty = n2 := by rw [ByteArray.toList_eq, ← hS2]; exact hn2
  have HS2 : Hid (∀ w', Sc W.heap.size l2 g2 w' → Calls Tryz.prog 95 #[.pointer (some ⟨W.heap.size, 0, none⟩), .string ⟨#[46]⟩] w' fun en w2 => en = .returned (.string S2) ∧ Sc W.heap.size t2 g2 w2 ∧ Kb W.heap.size w' w2) := fun w' hs => by
    have h := HSK.out [46] l2 g2 w' hs (by omega)
    rw [hq2, ht2, hS2] at h
    exact h
  rw [ht2] at ht2n
  clear hse1
  go_upto_if 23 with (first
    | (go_at_call 96; (with_reducible refine (HD1.out).mono ?_); rintro en w4 ⟨v, rfl, ho, hsc, hkb⟩; obtain ⟨A4, c4, hv4, -, -, -, -⟩ := own_row ho; rw [show (dvs ds).length = ds.length from by unfold dvs; rw [List.length_map]] at hv4; subst hv4; have ps4 := HPS3.out.kb HPB.out hsc hkb; obtain ⟨v0, ha0, -⟩ := ps4.am; have y1 := free_of_heap ha0 1; have y0 := cell_of_heap ha0 1; have HPS4 := Lib.hid (ps4.put HPB.out ho); have hz4 := hkb.size; simp at y0; clear hsc hkb ho ps4 ha0)
    | (go_at_call 95; (with_reducible refine (HS2.out _ HPS4.out.sc).mono ?_); rintro en w5 ⟨rfl, hsc, hkb⟩; have HPS5 := Lib.hid (HPS4.out.kb HPB.out hsc hkb); have hz5 := hkb.size; simp at hz5; clear hsc hkb))
  obtain ⟨i0, hi, hz0, hz1, hz2⟩ := info_parts info_byte
  have HI := Lib.hid (And.intro hi (And.intro hz0 (And.intro hz1 hz2)))
  clear hi hz0 hz1 hz2
  obtain ⟨⟨bs, ok3, l3⟩, hdot⟩ : ∃ d, dotL l2 = d := ⟨_, rfl⟩
  have HDOT := Lib.hid hdot
  have HQ2 := Lib.hid (And.intro hq2 (And.intro ht2 hn2))
  have hbn : bs.length ≤ l2.length ∧ l3.length ≤ l2.length ∧ ∀ b ∈ bs, isD b = true := by
    unfold dotL at hdot
    rw [ht2] at hdot
    split at hdot
    · cases hdot; exact ⟨Nat.zero_le _, Nat.le_refl _, fun b hb => by cases hb⟩
    · cases hdot
      exact ⟨Nat.le_trans (List.takeWhile_sublist _).length_le ht2n, Nat.le_trans (List.dropWhile_sublist _).length_le ht2n, fun b hb => mem_tw hb⟩
  obtain ⟨hbn1, hbn2, hbn3⟩ := hbn
  obtain ⟨⟨x4, ok4, l4⟩, hee⟩ : ∃ d, eeL l3 = d := ⟨_, rfl⟩
  have HEE := Lib.hid hee
  have HPR : Hid (parseR l = if ((g2 && ok3) && ok4) = true ∧ l4 = [] then resR neg (rnd (vd (dvs (ds ++ bs))).toNat (-(bs.length : Int) + x4)) else .tuple #[.agg #[.int .i64 0, .int .i64 0], .int .i64 7]) := by
    have e1 : pDs l = ds := by unfold pDs; rw [hl1, hds]
    have e2 : pDot l = (bs, ok3, l3) := by unfold pDot; rw [hl1, hl2, hdot]
    have e3 : pEe l = (x4, ok4, l4) := by unfold pEe; rw [e2, hee]
    have e4 : pNeg l = neg := by unfold pNeg; rw [hq1, hn1, hneg]
    have e5 : pGood l = ((g2 && ok3) && ok4) := by
      unfold pGood
      rw [e1, e2, e3, ← hg2, ← hg0, hn]
      congr 3
      exact decide_eq_decide.2 (by omega)
    show parseR l = _
    unfold parseR
    rw [e5, e3, e4, e1, e2]
  have hgood : ((g2 && ok3) && ok4) = true → n ≤ 80 := by
    intro h
    rw [Bool.and_eq_true, Bool.and_eq_true, ← hg2, Bool.and_eq_true, ← hg0, decide_eq_true_iff] at h
    omega
  have HGD := Lib.hid hgood
  have HLN := Lib.hid (show ds.length + bs.length ≤ 2 * n ∧ bs.length ≤ n from by omega)
  have HDI := Lib.hid (show InR 10 (dvs (ds ++ bs)) from dvs_inR fun b hb => (List.mem_append.1 hb).elim (hdsi b) (hbn3 b))
  clear hdot hq2 ht2 hn2 hse2 hee hgood hq1 hn1 hneg hg2 hg0 hds hl1 hl2
  go_cut [6] from 23 to 34 (fun v wx => Hid (Ps w W.heap.size w2.heap.size w.heap.size W3.heap.size l3 (g2 && ok3) neg (ds ++ bs) (-(bs.length : Int)) wx))
  case first =>
    cases n2 with
    | true =>
      go_wp2_with fail
      go_meet
      have h1 := HDOT.out
      unfold dotL at h1
      rw [HQ2.out.1, HQ2.out.2.2, if_pos rfl] at h1
      cases h1
      have h2 : t2 = l2 := by rw [← HQ2.out.2.1]; exact skip_same (by rw [HQ2.out.1]; exact HQ2.out.2.2)
      have h3 := HPS5.out
      rw [h2] at h3
      rw [Bool.and_true, List.append_nil]
      exact h3
    | false =>
      have h1 := HDOT.out
      unfold dotL at h1
      rw [HQ2.out.1, HQ2.out.2.2, if_neg (by decide), HQ2.out.2.1] at h1
      have e1 := congrArg Prod.fst h1
      have e2 := congrArg (fun x => x.2.1) h1
      have e3 := congrArg (fun x => x.2.2) h1
      dsimp only at e1 e2 e3
      have HD2 := Lib.hid (digits_c W.heap.size t2 g2 w5 HPS5.out.sc (sc_lt HPS5.out.sc) (by have := HLM.out; omega))
      rw [e2, e3, e1] at HD2
      clear e1 e2 e3 h1
      go_upto_region 6 with (first
        | (go_at_call 96; (with_reducible refine (HD2.out).mono ?_); rintro en w6 ⟨v6, rfl, ho6, hsc, hkb⟩; have HPS6 := Lib.hid (HPS5.out.kb HPB.out hsc hkb); have HO6 := Lib.hid ho6; have hz6 := hkb.size; clear hsc hkb ho6))
      obtain ⟨v0, ha0, ho0⟩ := HPS6.out.am
      obtain ⟨A0, c0, hv0, -, -, -, -⟩ := own_row ho0
      rw [dvs_len] at hv0
      subst hv0
      have y0 := cell_of_heap ha0 1; have y1 := free_of_heap ha0 1; have y2 := cell_of_heap ha0 2; have y3 := free_of_heap ha0 2
      simp at y0 y2
      have HO0 := Lib.hid ho0; have HA0 := Lib.hid ha0
      have hzb : W3.heap.size ≤ w6.heap.size := by omega
      have hdn : ds.length ≤ 1000000000000 := by have := HLM.out; omega
      have hbn9 : bs.length ≤ 1000000000000 := by have := HLM.out; omega
      have fin : Hid (∀ (w7 : World) (v' : Value), w6.grownBy w7 (Value.slice A0 ds.length c0).ownBlock → w7.ownsRow W3.heap.size 5 1 v' (ds.length + bs.length) ((dvs ds).map (Value.int .u8) ++ (dvs bs).map (Value.int .u8)) → Ps w W.heap.size w2.heap.size w.heap.size W3.heap.size l3 (g2 && ok3) neg (ds ++ bs) (-(bs.length : Int)) ((w7.setCell ⟨w2.heap.size, 1, none⟩ v').setCell ⟨w2.heap.size, 2, none⟩ (.int .i64 (-(bs.length : Int))))) := fun w7 v' hg ho => by
        refine (HPS6.out.grown HPB.out HO0.out hg hzb ?_).putE HPB.out _
        rw [List.length_append, dvs_append, List.map_append]
        exact ho
      obtain ⟨A6, c6, hv6, hc6, hm6, hr6, hf6⟩ := own_row HO6.out
      rw [dvs_len] at hv6
      subst hv6
      have HR6 := Lib.hid hr6
      clear ha0 ho0 hc6 hm6 hr6 hf6
      cases A6 with
      | none =>
        have hb0 : bs = [] := by
          cases bs with
          | nil => rfl
          | cons b t =>
            obtain ⟨a, e, -⟩ := HR6.out 0 (by rw [dvs_len]; exact Nat.succ_pos _)
            cases e
        have hc0 : c6 = 0 := by
          rcases HO6.out.2 with ⟨e, -⟩ | ⟨g, cap, cur, e, -⟩
          · exact (Value.slice.inj e).2.2
          · exact absurd (Value.slice.inj e).1 (by simp)
        subst hc0
        subst hb0
        clear fin HD2 HR6
        go_wp2_with (first
          | (at_builtin; refine wpList_append_own_none rfl _ _ 93 rfl W3.heap.size 5 i0 1 Tryz.underlying93 HI.out.1 _ _ _ rfl HO0.out rfl ?_))
        go_meet
        rw [List.append_nil]
        exact (HPS6.out.put HPB.out HO0.out).putE HPB.out _
      | some ad =>
        go_wp2_with (first
          | (at_builtin; refine wpList_append_own _ rfl _ _ 93 rfl W3.heap.size 5 i0 (.int .u8 0) 1 1 Tryz.underlying93 HI.out.1 HI.out.2.1 HI.out.2.2.1 HI.out.2.2.2 rfl (by decide) _ _ _ rfl HO0.out ad bs.length c6 ((dvs bs).map (Value.int .u8)) rfl (by rw [List.length_map, dvs_len, Nat.mul_one]) (news_of HR6.out) one_cells (by unfold maxLen; omega) (by omega) hzb ?_; intro v' w7 hown7 hgrow7 _; obtain ⟨A7, c7, hv7, -, -, -, -⟩ := own_row (xs := dvs ds ++ dvs bs) (by rw [List.map_append]; exact hown7); rw [show (dvs ds ++ dvs bs).length = ds.length + bs.length from by rw [List.length_append, dvs_len, dvs_len]] at hv7; subst hv7; have z0 := cell_of_heap (grownB hgrow7 HA0.out (own_neB HO0.out HPB.out.a)) 1; have z1 := free_of_heap (grownB hgrow7 HA0.out (own_neB HO0.out HPB.out.a)) 1; have z2 := cell_of_heap (grownB hgrow7 HA0.out (own_neB HO0.out HPB.out.a)) 2; have z3 := free_of_heap (grownB hgrow7 HA0.out (own_neB HO0.out HPB.out.a)) 2; have HF7 := Lib.hid (fin.out _ _ hgrow7 hown7); simp at z0 z2; clear hown7 hgrow7))
        go_meet
        exact HF7.out
  case rest =>
    have HPSA := hcut
    clear hcut
    obtain ⟨g3, hg3⟩ : ∃ g, (g2 && ok3) = g := ⟨_, rfl⟩
    rw [hg3] at HPSA HPR HGD
    obtain ⟨e3, he3⟩ : ∃ e, -(bs.length : Int) = e := ⟨_, rfl⟩
    have he3b : -1000000000000 ≤ e3 ∧ e3 ≤ 0 := by have := HLM.out; omega
    rw [he3] at HPSA HPR
    obtain ⟨q3, hq3⟩ : ∃ q, (skipL (inL [101]) l3).1 = q := ⟨_, rfl⟩
    obtain ⟨t3, ht3⟩ : ∃ q, (skipL (inL [101]) l3).2 = q := ⟨_, rfl⟩
    have ht3n := skip_len (inL [101]) l3
    obtain ⟨S3, hS3⟩ : ∃ S : ByteArray, ⟨q3.toArray⟩ = S := ⟨_, rfl⟩
    obtain ⟨n3, hn3⟩ : ∃ n, q3.isEmpty = n := ⟨_, rfl⟩
    have hse3 : S3.toList.isEmpty = n3 := by rw [ByteArray.toList_eq, ← hS3]; exact hn3
    have hln3 : l3.length ≤ l.length := by have := HLP.out; omega
    have HS3 : Hid (Calls Tryz.prog 95 #[.pointer (some ⟨W.heap.size, 0, none⟩), .string ⟨#[101]⟩] wc fun en w2 => en = .returned (.string S3) ∧ Sc W.heap.size t3 g3 w2 ∧ Kb W.heap.size wc w2) := by
      have h := HSK.out [101] l3 g3 wc HPSA.out.sc hln3
      rw [hq3, ht3, hS3] at h
      exact h
    rw [ht3] at ht3n
    have HQ3 := Lib.hid (And.intro hq3 (And.intro ht3 hn3))
    have HE3 := Lib.hid he3
    clear hq3 ht3 hn3 hg3 he3
    go_upto_if 37 with (first
      | (go_at_call 95; (with_reducible refine (HS3.out).mono ?_); rintro en w8 ⟨rfl, hsc, hkb⟩; have HPSB := Lib.hid (HPSA.out.kb HPB.out hsc hkb); clear hsc hkb))
    go_cut [] from 37 to 43 (fun wx => Hid (Ps w W.heap.size w2.heap.size w.heap.size W3.heap.size l4 (g3 && ok4) neg (ds ++ bs) (e3 + x4) wx))
    case first =>
      cases n3 with
      | true =>
        go_wp2_with fail
        go_meet
        have h1 := HEE.out
        unfold eeL at h1
        rw [HQ3.out.1, HQ3.out.2.2, if_pos rfl] at h1
        cases h1
        have h2 : t3 = l3 := by rw [← HQ3.out.2.1]; exact skip_same (by rw [HQ3.out.1]; exact HQ3.out.2.2)
        have h3 := HPSB.out
        rw [h2] at h3
        rw [Bool.and_true, Int.add_zero]
        exact h3
      | false =>
        have h1 := HEE.out
        unfold eeL at h1
        rw [HQ3.out.1, HQ3.out.2.2, if_neg (by decide), HQ3.out.2.1] at h1
        have e1 := congrArg Prod.fst h1
        have e2 := congrArg (fun x => x.2.1) h1
        have e3' := congrArg (fun x => x.2.2) h1
        dsimp only at e1 e2 e3'
        have HXP := Lib.hid (fun (w' : World) (hs : Sc W.heap.size t3 g3 w') => exponent_c W.heap.size t3 g3 w' hs (sc_lt hs) (by have := HLL.out; omega))
        rw [e2, e3', e1] at HXP
        have hxb : -100000 ≤ x4 ∧ x4 ≤ 100000 := by
          rw [← e1]
          unfold expV
          have := expo_le (esL t3)
          split <;> omega
        obtain ⟨hxb1, hxb2⟩ := hxb
        obtain ⟨heb1, heb2⟩ := he3b
        obtain ⟨v0, ha0, -⟩ := HPSB.out.am
        have y2 := cell_of_heap ha0 2
        simp at y2
        have hwr : IntKind.i64.wrap (e3 + x4) = e3 + x4 := IntWalk.i64_in _ (by omega)
        clear e1 e2 e3' h1 ha0
        go_upto_region 8 with fail
        go_region_with (first
          | (go_at_call 97; (with_reducible refine (HXP.out _ (by first | exact HPSB.out.sc | exact HPSB.out.drew.sc)).mono ?_); rintro en w9 ⟨rfl, hsc, hkb⟩; have HPSC : Hid (Ps w W.heap.size w2.heap.size w.heap.size W3.heap.size l4 (g3 && ok4) neg (ds ++ bs) e3 w9) := (by first | exact HPSB.out.kb HPB.out hsc hkb | exact HPSB.out.drew.kb HPB.out hsc hkb); obtain ⟨v9, ha9, -⟩ := HPSC.out.am; have z2 := cell_of_heap ha9 2; have z3 := free_of_heap ha9 2; simp at z2; clear hsc hkb ha9))
        all_goals
          go_wp2_with fail
          go_meet
          exact HPSC.out.putE HPB.out _
    case rest =>
      have HPSD := hcut
      clear hcut
      obtain ⟨g4, hg4⟩ : ∃ g, (g3 && ok4) = g := ⟨_, rfl⟩
      rw [hg4] at HPSD HPR HGD
      obtain ⟨S4, hS4⟩ : ∃ S : ByteArray, ⟨l4.toArray⟩ = S := ⟨_, rfl⟩
      have s0 : wc.cell? ⟨W.heap.size, 0, none⟩ = some (.string S4) := by rw [← hS4]; exact cell_of_heap HPSD.out.sc 0
      have s1 : wc.cell? ⟨W.heap.size, 1, none⟩ = some (.bool g4) := cell_of_heap HPSD.out.sc 1
      have FIN := fin2 HPSD.out.res (Nat.le_refl _) HPSD.out.bel
      have BOX := box2 HPSD.out.res
      have hse4 : S4.toList.isEmpty = l4.isEmpty := by rw [ByteArray.toList_eq, ← hS4]
      clear hg4 hS4
      by_cases hok : g4 = true ∧ l4 = []
      · obtain ⟨rfl, rfl⟩ := hok
        have hn80 := HGD.out rfl
        have HPR2 : Hid (parseR l = resR neg (rnd (vd (dvs (ds ++ bs))).toNat (e3 + x4))) := by show _ = _; rw [HPR.out, if_pos ⟨rfl, rfl⟩]
        obtain ⟨a, b, c, hf⟩ := res_form neg (rnd (vd (dvs (ds ++ bs))).toNat (e3 + x4))
        rw [hf] at HPR2
        obtain ⟨v0, ha0, ho0⟩ := HPSD.out.am
        obtain ⟨A0, c0, hv0, hc0, hm0, hr0, -⟩ := own_row ho0
        subst hv0
        have y0 := cell_of_heap ha0 0; have y1 := cell_of_heap ha0 1; have y2 := cell_of_heap ha0 2; have y3 := cell_of_heap ha0 3
        simp only [List.getElem?_toArray, List.getElem?_cons_zero, List.getElem?_cons_succ] at y0 y1 y2 y3
        have hdl : (dvs (ds ++ bs)).length ≤ 1000000 := by rw [dvs_len, List.length_append]; have := HLN.out; omega
        have hxb : -1000000000 ≤ e3 + x4 ∧ e3 + x4 ≤ 1000000000 := by
          have h1 := HEE.out
          have h2 : -100000 ≤ x4 ∧ x4 ≤ 100000 := by
            unfold eeL at h1
            split at h1
            · cases h1; omega
            · have e1 := congrArg Prod.fst h1
              dsimp only at e1
              rw [← e1]
              unfold expV
              have := expo_le (esL (skipL (inL [101]) l3).2)
              split <;> omega
          have := HE3.out
          have := HLN.out
          omega
        have HRD := Lib.hid (rounded_c neg A0 c0 (dvs (ds ++ bs)) (e3 + x4) false wc hr0 hc0 (by unfold maxLen at hm0; omega) HDI.out hdl hxb.1 hxb.2)
        rw [show withMore (dvs (ds ++ bs)) false = dvs (ds ++ bs) from rfl, show expMore (e3 + x4) false = e3 + x4 from rfl, hf] at HRD
        clear ha0 ho0 hc0 hm0 hr0 hf hdl hxb hn80
        go_wp2_with (first
          | (go_at_call 88; (with_reducible refine (HRD.out).mono ?_); rintro en w9 ⟨rfl, hbz⟩; obtain ⟨b0, b1, b2, b3⟩ := BOX.out _ hbz; have HB := Lib.hid hbz; clear hbz))
        obtain ⟨r0, r1, hbb⟩ := FIN.out _ a b HB.out
        refine bodyPost_ret (v := .tuple #[.agg #[.int .i64 a, .int .i64 b], .int .i64 c]) (by simp [results, Tryz.results28, go_sem, r0, r1]) rfl ?_
        rw [HPR2.out]
        exact ⟨rfl, hbb⟩
      · have HPR2 : Hid (parseR l = .tuple #[.agg #[.int .i64 0, .int .i64 0], .int .i64 7]) := by show _ = _; rw [HPR.out, if_neg hok]
        obtain ⟨b0, b1, b2, b3⟩ := BOX.out _ (Below.refl _ _)
        have hcase : g4 = false ∨ (g4 = true ∧ l4.isEmpty = false) := by
          cases g4 with
          | false => exact .inl rfl
          | true =>
            refine .inr ⟨rfl, ?_⟩
            cases l4 with
            | nil => exact absurd ⟨rfl, rfl⟩ hok
            | cons x t => rfl
        clear hok
        rcases hcase with rfl | ⟨rfl, hle⟩
        · go_wp2_with fail
          obtain ⟨r0, r1, hbb⟩ := FIN.out _ 0 0 (Below.refl _ _)
          refine bodyPost_ret (v := .tuple #[.agg #[.int .i64 0, .int .i64 0], .int .i64 7]) (by simp [results, Tryz.results28, go_sem, r0, r1]) rfl ?_
          rw [HPR2.out]
          exact ⟨rfl, hbb⟩
        · rw [hle] at hse4
          go_wp2_with fail
          obtain ⟨r0, r1, hbb⟩ := FIN.out _ 0 0 (Below.refl _ _)
          refine bodyPost_ret (v := .tuple #[.agg #[.int .i64 0, .int .i64 0], .int .i64 7]) (by simp [results, Tryz.results28, go_sem, r0, r1]) rfl ?_
          rw [HPR2.out]
          exact ⟨rfl, hbb⟩
end Go.Proofs.YtekbfommnmikbaaGreatDoor
