/- The reference's natural numbers: division. -/
import Derived.Test.YtbjgpbdkofadiaaGreatDoorRefH
namespace Go.Proofs.YtbjgpbdkofadiaaGreatDoor
set_option linter.unusedVariables false
set_option linter.unusedSimpArgs false
open Go.RowKit

/-- append of a row, nil or not, to a row of the call's own. -/
theorem append_nat (w : World) {ops : Array Oper} {rest : List Oper} {o : Oper} {a : Act} {Q : Exit → Act → World → Prop}
    (hg : o.guard = none) (s x : Operand) (hop : o.op = Op.call { callee := Callee.builtin Builtin.append, args := #[s, x], argTypes := #[30, 30] })
    (base : Nat) (v : Value) (k : Nat) (ys : List Int) (hs : a.eval s = v) (hown : w.ownsRow base 3 1 v k (ys.map (Value.int .i64))) (A : Option Addr) (c : Nat) (xs : List Int) (hx : a.eval x = .slice A xs.length c) (hr : Row .i64 w A xs)
    (b1 : k + xs.length ≤ 10000000) (b3 : base ≤ w.heap.size)
    (hK : ∀ v' w', w'.ownsRow base 3 1 v' (k + xs.length) ((ys ++ xs).map (Value.int .i64)) → w.grownBy w' v.ownBlock → wpList Tryz.prog ops Q rest (a.put o.dst v') w') :
    wpList Tryz.prog ops Q (o :: rest) a w := by
  obtain ⟨i0, hi, hz0, hz1, hz2⟩ := info_parts info_int
  cases A with
  | none =>
    have hx0 : xs = [] := by
      cases xs with
      | nil => rfl
      | cons x xs => obtain ⟨a, e, _⟩ := hr 0 (by simp); cases e
    subst hx0
    refine wpList_plain hg fun K hK' => ?_
    have hrun := run_append_none (P := Tryz.prog) (w := w) base 30 o.type 3 i0 1 Tryz.underlying30 hi v k c _ hown
    simp only [List.length_nil] at hx
    unfold Oper.wp execOp
    simp only [hop, resolve, invoke, builtin, Sem.run_bind, Sem.run_pure, Result.andThen_ok, List.map_toArray, List.map_cons, List.map_nil, hs, hx, hrun]
    exact hK' _ _ (hK v w (by simpa using hown) ⟨rfl, rfl, rfl, Nat.le_refl _, fun _ _ _ => rfl⟩)
  | some ad =>
    refine wpList_append_own w hg s x 30 hop base 3 i0 (.int .i64 0) 1 8 Tryz.underlying30 hi hz0 hz1 hz2 rfl (by decide) v k _ hs hown ad xs.length c (xs.map (Value.int .i64)) hx (by simp) ?_ ?_ (by unfold maxLen; omega) (by omega) b3 ?_
    · intro j u hj
      have hjn : j < xs.length := by
        have := (List.getElem?_eq_some_iff.1 hj).1
        simpa using this
      obtain ⟨a', e, hc⟩ := hr j hjn
      cases e
      rw [hc]
      rw [List.getElem?_map, List.getElem?_eq_getElem hjn] at hj
      rw [List.getElem?_eq_getElem hjn]
      exact hj
    · intro u hu; obtain ⟨x, _, rfl⟩ := List.mem_map.1 hu; rfl
    · intro v' w' h1 h2 _
      exact hK v' w' (by simpa using h1) h2

/-- The number of the digits from place g on. -/
def vn (p : List Int) (g : Nat) : Nat := (val 10 (p.drop g)).toNat
theorem vn_end (p : List Int) : vn p p.length = 0 := by simp [vn, val]
theorem vn_step {p : List Int} (hp : InR 10 p) (g : Nat) (hg : g < p.length) : (vn p g : Int) = p[g]?.getD 0 + 10 * (vn p (g + 1) : Int) := by
  have h0 := val_nonneg (hp.drop g)
  have h1 := val_nonneg (hp.drop (g + 1))
  have h2 := val_drop 10 p g hg
  rw [List.getD_eq_getElem?_getD] at h2
  unfold vn
  rw [show ((10 : Nat) : Int) = 10 from rfl] at h2
  omega
theorem vn_zero {p : List Int} {m : Nat} (hv : val 10 p = (m : Int)) : vn p 0 = m := by
  unfold vn; rw [List.drop_zero, hv]; rfl
theorem div_digit {V d n R : Nat} (hn : 0 < n) (hR : R = V % n) : (d + 10 * V) / n = 10 * (V / n) + (d + 10 * R) / n ∧ (d + 10 * V) % n = (d + 10 * R) % n := by
  have h := Nat.div_add_mod V n
  have e : d + 10 * V = (d + 10 * R) + n * (10 * (V / n)) := by
    have e1 : n * (10 * (V / n)) = 10 * (n * (V / n)) := Nat.mul_left_comm _ _ _
    omega
  rw [e]
  constructor
  · rw [Nat.add_mul_div_left _ _ hn]; omega
  · rw [Nat.add_mul_mod_self_left]
theorem div_done {g n q R : Nat} (h : g + q * n = R) (hg : g < n) : R / n = q ∧ R % n = g := by
  subst h
  constructor
  · rw [Nat.add_mul_div_right _ _ (by omega), Nat.div_eq_of_lt hg]; omega
  · rw [Nat.add_mul_mod_self_right, Nat.mod_eq_of_lt hg]
theorem dg_len_next {r n d : Nat} (h : r < n) (hd : d < 10) : (dg 10 (d + 10 * r)).length ≤ (dg 10 n).length + 1 := by
  refine (dg_length_le (by decide) _ _).2 ?_
  have := lt_pow_length (b := 10) (by decide) n
  rw [Nat.pow_succ]; omega
theorem set_drop {lq : List Int} {g : Nat} (hg : g < lq.length) (x : Int) : val 10 ((lq.set g x).drop g) = x + 10 * val 10 (lq.drop (g + 1)) := by
  rw [val_drop 10 _ g (by simpa using hg), List.getD_eq_getElem?_getD, List.getElem?_set_self hg, List.drop_set_of_lt (by omega)]
  rfl

/-- What natDiv returns. -/
def RDivP (m n : Nat) (w : World) (e : Ending) (w' : World) : Prop :=
  ∃ q r, e = .returned (.agg #[q, r]) ∧ Dg 10 w' q (m / n) ∧ Dg 10 w' r (m % n) ∧ FromB w.heap.size q ∧ FromB w.heap.size r ∧ Below w.heap.size w w'

theorem dd_set {W2 : World} {B m n : Nat} {p q : Value} {z0 z1 : Value} (h0 : W2.cell? ⟨B, 0, none⟩ = some z0) (h1 : W2.cell? ⟨B, 1, none⟩ = some z1) (hp : Dg 10 W2 p m) (hq : Dg 10 W2 q n) (fp : FromB (B + 1) p) (fq : FromB (B + 1) q) :
    ∃ F, (W2.setCell ⟨B, 0, none⟩ p).setCell ⟨B, 1, none⟩ q = F ∧ F.cell? ⟨B, 0, none⟩ = some p ∧ F.cell? ⟨B, 1, none⟩ = some q ∧ Dg 10 F p m ∧ Dg 10 F q n ∧ (∀ k w, k ≤ B → Below k w W2 → Below k w F) :=
  ⟨_, rfl, set_other _ (by simp) (set_same _ h0), set_same _ (set_other _ (by simp) h1), (hp.set fp (by simp) _).set fp (by simp) _, (hq.set fq (by simp) _).set fq (by simp) _, fun k w hk hb => (hb.setCell hk _).setCell hk _⟩

set_option maxRecDepth 100000 in
set_option maxHeartbeats 4000000 in
theorem natDiv_c (v1 v2 : Value) (m n : Nat) (w : World) (h1 : Dg 10 w v1 m) (h2 : Dg 10 w v2 n) (hn : 0 < n) (hm : (dg 10 m).length ≤ 1000000) (hnl : (dg 10 n).length ≤ 999999) :
    Calls Tryz.prog 67 #[v1, v2] w (RDivP m n w) := by
  obtain ⟨A1, c1, rfl, hc1, _, hr1⟩ := h1
  have HQ0 := Lib.hid h2
  obtain ⟨A2, c2, rfl, hc2, _, hr2⟩ := h2
  have HR1 := Lib.hid hr1
  have I1 := Lib.hid (dg_inR (b := 10) (by decide) m)
  have V1 := Lib.hid (vn_zero (val_dg (b := 10) (by decide) m))
  clear hr1 hr2
  have HNL := Lib.hid hnl
  have HN := Lib.hid hn
  generalize dg 10 m = p at *
  obtain ⟨L2, hL2⟩ : ∃ L2, (dg 10 n).length = L2 := ⟨_, rfl⟩
  rw [hL2] at HQ0 hc2 ⊢
  have HL2 := Lib.hid hL2
  clear hL2 hnl
  have hmk := make_nat p.length p.length (by simp) (by omega)
  obtain ⟨L, hL⟩ : ∃ L, p.length = L := ⟨_, rfl⟩
  rw [hL] at hmk hm ⊢
  have HL := Lib.hid hL
  clear hL hn
  go_enter Tryz.func67, Tryz.ntmps67
  go_wp2_with fail
  clear hmk
  have hbx0 : ((w.alloc (.cells #[.slice none 0 0, .slice none 0 0] 85)).alloc (.cells (madeCells #[.int .i64 0] L) 3)).heap[w.heap.size]? = some (.cells #[.slice none 0 0, .slice none 0 0] 85 (0, 0)) := heap_old _ (heap_alloc_new _ _)
  have hown0 := own_zeros (w.alloc (.cells #[.slice none 0 0, .slice none 0 0] 85)) L (by omega)
  rw [show (w.alloc (.cells #[.slice none 0 0, .slice none 0 0] 85)).heap.size = w.heap.size + 1 by simp] at hown0
  have hB0 : Below w.heap.size w ((w.alloc (.cells #[.slice none 0 0, .slice none 0 0] 85)).alloc (.cells (madeCells #[.int .i64 0] L) 3)) := ((Below.refl _ _).alloc (Nat.le_refl _) _).alloc (by simp) _
  generalize (w.alloc (.cells #[.slice none 0 0, .slice none 0 0] 85)).alloc (.cells (madeCells #[.int .i64 0] L) 3) = w0 at *
  have HBX0 := Lib.hid hbx0
  have HO0 := Lib.hid hown0
  have HB0 := Lib.hid hB0
  clear hbx0 hown0 hB0
  go_loopg [6, 7] L (fun g rv iv wr => ∃ (r : Nat) (lq : List Int), iv = .int .i64 ((g : Int) - 1) ∧ g ≤ L ∧ Hid (Dg 10 wr rv r ∧ FromB (w.heap.size + 1 + 1) rv)
      ∧ Hid (wr.ownsRow (w.heap.size + 1) 3 1 (.slice (some ⟨w.heap.size + 1, 0, none⟩) L L) L (lq.map (Value.int .i64)))
      ∧ Hid (lq.length = L ∧ InR 10 lq ∧ (∀ j, j < g → lq[j]?.getD 0 = 0) ∧ val 10 (lq.drop g) = ((vn p g / n : Nat) : Int) ∧ r = vn p g % n)
      ∧ Hid (wr.heap[w.heap.size]? = some (.cells #[.slice none 0 0, .slice none 0 0] 85 (0, 0))) ∧ Hid (Below w.heap.size w wr))
  case atStart =>
    refine ⟨0, List.replicate L 0, rfl, Nat.le_refl _, ⟨Dg.zero (by decide) _, fun k hk => by cases hk⟩, HO0.out, ⟨by simp, InR.replicate (by decide) _, fun j _ => by rw [List.getElem?_replicate]; split <;> rfl, ?_, ?_⟩, HBX0.out, HB0.out⟩
    · have := vn_end p; rw [HL.out] at this; rw [this, List.drop_eq_nil_of_le (by simp)]; simp [val]
    · have := vn_end p; rw [HL.out] at this; rw [this]; simp
  case round =>
    obtain ⟨r, lq, rfl, hg, HD, HOW, HV, HBX, HB⟩ := hrel
    by_cases hg0 : gk = 0
    · subst hg0
      obtain ⟨hll, hli, hlz, hlv, hlr⟩ := HV.out
      rw [List.drop_zero, V1.out] at hlv
      rw [V1.out] at hlr
      obtain ⟨A, c, hve, hlc, hcm, hrow, hln⟩ := own_row HOW.out
      obtain ⟨rfl, -, rfl⟩ := Value.slice.inj hve
      obtain ⟨A3, c3, hrv, hc3, hm3, hrow3⟩ := HD.out.1
      subst hrv
      have HROW := Lib.hid hrow
      have HIN := Lib.hid hli
      have HVL := Lib.hid hlv
      have HRR := Lib.hid hlr
      have hcm' : L ≤ 9223372036854775807 := by omega
      have HLL := Lib.hid hll
      have hlc' : lq.length ≤ L := hlc
      have f00 := free_of_heap HBX.out 0; have f01 := free_of_heap HBX.out 1
      have c00 := cell_of_heap HBX.out 0; have c01 := cell_of_heap HBX.out 1
      simp at c00 c01
      obtain ⟨L3, hL3⟩ : ∃ L3, (dg 10 r).length = L3 := ⟨_, rfl⟩
      have HL3 := Lib.hid hL3
      rw [hL3]
      clear hll hli hlz hlv hlr hve hln hrow hc3 hm3 hrow3 hL3 hlc hcm
      go_wp2_with (go_at_call 61; rw [show (Value.slice (some ⟨w.heap.size + 1, 0, none⟩) L L) = Value.slice (some ⟨w.heap.size + 1, 0, none⟩) lq.length L from by rw [HLL.out]]; refine (trim_c _ L lq wr HROW.out hlc' hcm').mono ?_; intro e w1 hcut; obtain ⟨rfl, v, rfl, hdg, hblk⟩ := cut_dg (b := 10) (by decide) HROW.out hlc' hcm' HIN.out HVL.out hcut; obtain ⟨A9, n9, c9, rfl⟩ := hdg.form; have HDG := Lib.hid hdg; have HF9 : Hid (FromB (w.heap.size + 1) (.slice A9 n9 c9)) := (fun k hk => by obtain ⟨a, ha, rfl⟩ := hblk k hk; cases ha; exact Nat.le_refl _); clear hdg hblk hcut)
      have HDR : Dg 10 wr (.slice A3 L3 c3) r := by have := HD.out.1; rw [HL3.out] at this; exact this
      have HFR : FromB (w.heap.size + 1) (.slice A3 L3 c3) := by have := HD.out.2; rw [HL3.out] at this; exact this.mono (by omega)
      obtain ⟨F, hF, r0, r1, hd0, hd1, hbf⟩ := dd_set c00 c01 HDG.out HDR HF9.out HFR
      rw [hF]
      refine bodyPost_ret (v := .agg #[.slice A9 n9 c9, .slice A3 L3 c3]) (by simp [results, Tryz.results67, go_sem, r0, r1]) rfl ?_
      rw [HRR.out] at hd1
      exact ⟨_, _, rfl, hd0, hd1, HF9.out.mono (by omega), HFR.mono (by omega), hbf _ _ (Nat.le_refl _) HB.out⟩
    · obtain ⟨g, rfl⟩ : ∃ g, gk = g + 1 := ⟨gk - 1, by omega⟩
      rw [show (((g + 1 : Nat) : Int) - 1) = (g : Int) by omega]
      have hlt : g < L := by omega
      obtain ⟨a1, rfl, hcell⟩ := (HR1.out.below HB.out) g (by rw [HL.out]; exact hlt)
      have hst := vn_step I1.out g (by rw [HL.out]; exact hlt)
      have hin := I1.out.at_ (by decide) g
      rw [List.getD_eq_getElem?_getD] at hin
      obtain ⟨d, hd⟩ : ∃ d : Nat, p[g]?.getD 0 = (d : Int) := ⟨(p[g]?.getD 0).toNat, by omega⟩
      rw [hd] at hcell hst hin
      have hd9 : d < 10 := by omega
      have hst' : vn p g = d + 10 * vn p (g + 1) := by omega
      obtain ⟨hll, hli, hlz, hlv, hlr⟩ := HV.out
      have hrn : r < n := by rw [hlr]; exact Nat.mod_lt _ HN.out
      obtain ⟨hdv, hdm⟩ := div_digit (d := d) HN.out hlr
      have hlen := dg_len_next hrn hd9
      obtain ⟨R, hR⟩ : ∃ R, d + 10 * r = R := ⟨_, rfl⟩
      rw [hR] at hdv hdm hlen
      have HST := Lib.hid hst'
      have HDV := Lib.hid hdv
      have HDM := Lib.hid hdm
      have HRN := Lib.hid hrn
      have HR := Lib.hid hR
      have HD9 := Lib.hid hd9
      have HLEN : Hid ((dg 10 R).length ≤ 1000000) := by have := HNL.out; show _ ≤ _; omega
      have HRL : Hid ((dg 10 r).length ≤ 1000000) := by have := HNL.out; have := dg_length_mono (b := 10) (by decide) (Nat.le_of_lt hrn); show _ ≤ _; omega
      obtain ⟨A3, c3, hrv, hc3, hm3, hrow3⟩ := HD.out.1
      subst hrv
      have HROW3 := Lib.hid (hrow3.below ((Below.refl _ _).alloc (Nat.le_refl _) (.cells #[.int .i64 (d : Int)] 3)))
      have HVL : Hid (val 10 ((d : Int) :: dg 10 r) = (R : Int)) := by show _ = _; rw [val_cons, val_dg (by decide), ← hR]; simp
      have HIR : Hid (InR 10 ((d : Int) :: dg 10 r)) := InR.cons (by omega) (show (d : Int) < 10 from by omega) (dg_inR (by decide) r)
      obtain ⟨L3, hL3⟩ : ∃ L3, (dg 10 r).length = L3 := ⟨_, rfl⟩
      have HL3 := Lib.hid hL3
      rw [hL3]
      have hsz : w.heap.size + 1 + 1 ≤ wr.heap.size := (HOW.out.lt _ rfl).2
      have j0 : (0 : Int) ≤ (g : Int) := by omega
      have j1 : (g : Int) < (L : Int) := by omega
      clear hst hin hst' hll hli hlz hlv hlr hrn hdv hdm hlen hR hc3 hm3 hrow3 hd hL3 HD hd9
      have hm3' : L3 ≤ 1000000 := by rw [← HL3.out]; exact HRL.out
      go_wp2_with (first
        | (at_builtin; refine append_nat _ rfl _ _ rfl wr.heap.size _ 1 [(d : Int)] rfl (World.ownsRow_lit (e := 3) (size := 1) wr #[.int .i64 (d : Int)] 1 (Nat.le_refl _) (by decide) (by simp)) A3 c3 (dg 10 r) (by rw [HL3.out]; rfl) HROW3.out (by rw [HL3.out]; omega) (by simp) ?_; intro v4 w1 hown1 hgrow1; have HBW : Hid (Below wr.heap.size wr w1) := ((Below.refl _ _).alloc (Nat.le_refl _) _).grown hgrow1 (by simp) (fun k hk => by cases hk; exact Nat.le_refl _); obtain ⟨A4, c4, rfl, hlc4, hcm4, hrow4, hln4⟩ := own_row hown1; have HF4 := Lib.hid (own_from hown1); have HROW4 := Lib.hid hrow4; have HLC4 := Lib.hid hlc4; have HCM4 := Lib.hid (show c4 ≤ 9223372036854775807 from by unfold maxLen at hcm4; omega); clear hown1 hgrow1 hrow4 hlc4 hcm4 hln4)
        | (go_at_call 61; refine (trim_c A4 c4 _ w1 HROW4.out HLC4.out HCM4.out).mono ?_; intro e w' hcut; obtain ⟨rfl, v5, rfl, hdg, hblk⟩ := cut_dg (b := 10) (by decide) HROW4.out HLC4.out HCM4.out HIR.out HVL.out hcut; have HDG := Lib.hid hdg; have HF5 : Hid (FromB (w.heap.size + 1 + 1) v5) := (fun k hk => by obtain ⟨a, rfl, rfl⟩ := hblk k hk; exact Nat.le_trans hsz (HF4.out _ rfl)); clear hdg hblk))
      have HB1 := Lib.hid (below_then HB.out HBW.out (by omega))
      have HO1 := Lib.hid (own_below HOW.out HBW.out)
      have HBX1 := Lib.hid (heap_below HBX.out HBW.out)
      have HLQ := Lib.hid (And.intro HV.out.1 (And.intro HV.out.2.1 (And.intro HV.out.2.2.1 HV.out.2.2.2.1)))
      have hsz1 : w.heap.size + 1 + 1 ≤ w1.heap.size := Nat.le_trans hsz HBW.out.size
      have HR10 : Hid (R < 10 * n) := by show _ < _; have := HRN.out; have := HD9.out; have := HR.out; omega
      clear HROW4 HROW3 HV HOW HBX HF4 HIR HVL hcell hm3' HLC4 HCM4
      go_loopg [6] R (fun g' rv w3 => ∃ (q : Nat) (lq2 : List Int), Hid (Dg 10 w3 rv g' ∧ FromB (w.heap.size + 1 + 1) rv) ∧ Hid (g' + q * n = R ∧ lq2 = lq.set g (q : Int))
          ∧ Hid (w3.ownsRow (w.heap.size + 1) 3 1 (.slice (some ⟨w.heap.size + 1, 0, none⟩) L L) L (lq2.map (Value.int .i64)))
          ∧ Hid (w3.heap[w.heap.size]? = some (.cells #[.slice none 0 0, .slice none 0 0] 85 (0, 0))) ∧ Hid (Below w.heap.size w w3) ∧ w.heap.size + 1 + 1 ≤ w3.heap.size)
      case atStart =>
        refine ⟨0, lq, ⟨HDG.out, HF5.out⟩, ⟨by simp, ?_⟩, HO1.out, HBX1.out, HB1.out, hsz1⟩
        obtain ⟨hll, -, hlz, -⟩ := HLQ.out
        refine List.ext_getElem (by simp) fun j h1 h2 => ?_
        by_cases e : g = j
        · subst e
          have := hlz g (by omega)
          rw [List.getElem?_eq_getElem h1] at this
          rw [List.getElem_set_self]; exact this
        · rw [List.getElem_set_ne e]
      case round =>
        obtain ⟨q, lq2, HD2, HQ, HO2, HBX2, HB2, hsz2⟩ := hrel
        obtain ⟨hll, hli, hlz, hlv⟩ := HLQ.out
        have hqr := HQ.out.1
        have hql := HQ.out.2
        subst hql
        clear HQ
        have hq10 : q < 10 := by
          have h1 := HR10.out
          have h2 : q * n < 10 * n := by omega
          exact Nat.lt_of_mul_lt_mul_right h2
        have HLG : Hid ((dg 10 gk).length ≤ 1000000) := by show _ ≤ _; have := dg_length_mono (b := 10) (by decide) (show gk ≤ R by omega); have := HLEN.out; omega
        have HQ2 := Lib.hid (HQ0.out.below HB2.out)
        have HNL1 : Hid ((dg 10 n).length ≤ 1000000) := by show _ ≤ _; have := HNL.out; omega
        obtain ⟨s, hsn⟩ : ∃ s, sgn ((gk : Int) - (n : Int)) = s := ⟨_, rfl⟩
        have HSN := Lib.hid hsn
        by_cases hle : n ≤ gk
        · have hs0 : 0 ≤ s := by rw [← hsn]; unfold sgn; split <;> (try split) <;> omega
          have hq9 : q < 9 := by
            have h1 := HR10.out
            have h2 : (q + 1) * n < 10 * n := by rw [Nat.add_mul]; omega
            have := Nat.lt_of_mul_lt_mul_right h2
            omega
          have HLE := Lib.hid hle
          have hcq : wr.cell? ⟨w.heap.size + 1, g, none⟩ = some (.int .i64 (q : Int)) := by
            rw [own_cell HO2.out g hlt (by simpa using hll), List.getElem?_set_self (by omega)]; rfl
          have hfq : wr.frozen? ⟨w.heap.size + 1, g, none⟩ = false := HO2.out.frozenAt g
          have HQR := Lib.hid hqr
          clear hll hli hlz hlv hqr hsn hle
          go_wp2_with (first
            | (go_at_call 78; (with_reducible refine (natCmp_c _ _ gk n _ HD2.out.1 HQ2.out HLG.out HNL1.out).mono ?_); rintro e w4 ⟨he, hbz⟩; rw [HSN.out] at he; subst he; have HB4 := Lib.hid hbz; have HS4 := Lib.hid hbz.size; clear hbz)
            | (go_at_call 99; (with_reducible refine (natSub_c _ _ gk n _ (HD2.out.1.below HB4.out) (HQ2.out.below HB4.out) HLG.out HLE.out).mono ?_); rintro e w5 ⟨u, rfl, hu, hfu, hbz⟩; have HU := Lib.hid hu; have HFU : Hid (FromB (w.heap.size + 1 + 1) u) := Lib.hid (hfu.mono (Nat.le_trans hsz2 HS4.out)); have HB5 := Lib.hid (below_then' HB4.out hbz); have hcq := keep_cell HB5.out hcq; have hfq := keep_free' HB5.out (by assumption) hfq; clear hbz hu hfu))
          go_roundg (gk - n)
          case measure => have := HN.out; have := HLE.out; omega
          case rel =>
            refine ⟨q + 1, lq.set g ((q + 1 : Nat) : Int), ⟨HU.out.set HFU.out (by simp) _, HFU.out⟩, ⟨?_, rfl⟩, ?_, (Below.heap_setCell _ _ _ _ (by simp)).trans (heap_below HBX2.out HB5.out), (below_then HB2.out HB5.out (by omega)).setCell (p := ⟨w.heap.size + 1, g, none⟩) (by simp) _, ?_⟩
            · have := HQR.out; have := HLE.out; rw [Nat.add_mul]; omega
            · have h1 := store_own (own_below HO2.out HB5.out) g ((q : Int) + 1)
              rw [List.set_set] at h1
              exact h1
            · simp; exact Nat.le_trans hsz2 HB5.out.size
        · have hs0 : s < 0 := by rw [← hsn, sgn_lt (by omega)]; decide
          have HLE := Lib.hid (Nat.lt_of_not_le hle)
          have HQR := Lib.hid hqr
          have HQ10 := Lib.hid hq10
          clear hll hli hlz hlv hqr hsn hle
          go_wp2_with (go_at_call 78; (with_reducible refine (natCmp_c _ _ gk n _ HD2.out.1 HQ2.out HLG.out HNL1.out).mono ?_); rintro e w4 ⟨he, hbz⟩; rw [HSN.out] at he; subst he; have HB4 := Lib.hid hbz; have HS4 := Lib.hid hbz.size; clear hbz)
          go_roundg g
          case measure => omega
          case rel =>
            obtain ⟨hll, hli, hlz, hlv⟩ := HLQ.out
            obtain ⟨e1, e2⟩ := div_done HQR.out HLE.out
            refine ⟨gk, lq.set g (q : Int), rfl, by omega, ⟨HD2.out.1.below HB4.out, HD2.out.2⟩, own_below HO2.out HB4.out, ⟨by simpa using hll, hli.set _ (by omega) (show (q : Int) < 10 from by omega), fun j hj => ?_, ?_, ?_⟩, heap_below HBX2.out HB4.out, below_then HB2.out HB4.out (by omega)⟩
            · rw [List.getElem?_set_ne (by omega)]; exact hlz j (by omega)
            · rw [set_drop (by omega), hlv, HST.out, HDV.out, e1]; simp; omega
            · rw [HST.out, HDM.out, e2]
end Go.Proofs.YtbjgpbdkofadiaaGreatDoor
