/- The reference's texts: Text, Fits, FromInt. -/
import Derived.Test.YtbjgpbdkofadiaaGreatDoorRefI
namespace Go.Proofs.YtbjgpbdkofadiaaGreatDoor
set_option linter.unusedVariables false
set_option linter.unusedSimpArgs false
open Go.RowKit Go.Shelf

theorem ret_b {a b : Bool} (h : a = b) : Ending.returned (.bool a) = .returned (.bool b) := by rw [h]
theorem itoa_zero : Lib.itoa 0 = [48] := by
  unfold Lib.itoa
  rw [if_neg (by omega)]
  exact decDigits_zero

set_option maxHeartbeats 400000 in
theorem rfits_c (v : Value) (z : Int) (w : World) (h : Ri w v z) :
    Calls Tryz.prog 31 #[v] w fun e w' => e = .returned (.bool (decide ((dg 10 z.natAbs).length ≤ 200))) ∧ Below w.heap.size w w' := by
  obtain ⟨A, n, c, b, rfl⟩ := h.form
  obtain ⟨hn, -⟩ := ri_parts h
  rw [← hn]
  clear hn h
  go_enter Tryz.func31, Tryz.ntmps31
  go_wp2_with fail
  go_ret
  exact ⟨ret_b (by rw [decide_eq_decide]; omega), (Below.refl _ _).alloc (Nat.le_refl _) _⟩

/-- The text of the digits from place g on. -/
def topd (n g : Nat) : List UInt8 := (((dg 10 n).drop g).map fun d => UInt8.ofNat (48 + d.toNat)).reverse
theorem topd_end (n : Nat) : topd n (dg 10 n).length = [] := by simp [topd]
theorem topd_step (n g : Nat) (h : g < (dg 10 n).length) : topd n g = topd n (g + 1) ++ [UInt8.ofNat (48 + ((dg 10 n)[g]?.getD 0).toNat)] := by
  unfold topd
  rw [List.drop_eq_getElem_cons h, List.map_cons, List.reverse_cons, List.getElem?_eq_getElem h]
  rfl
theorem topd_cons (n : Nat) (hn : 0 < n) : topd n 0 = topd (n / 10) 0 ++ [UInt8.ofNat (48 + n % 10)] := by
  unfold topd
  rw [dg_pos (by decide) hn]
  have : (((n % 10 : Nat) : Int)).toNat = n % 10 := by omega
  simp only [List.drop_zero, List.map_cons, List.reverse_cons, this]
theorem topd_zero : ∀ n, 0 < n → topd n 0 = Lib.decDigits n := by
  intro n
  induction n using Nat.strongRecOn with
  | _ n ih =>
    intro hn
    rw [topd_cons n hn]
    by_cases h : n < 10
    · rw [Lib.decDigits_one h, show n / 10 = 0 by omega, show n % 10 = n by omega]
      simp [topd, dg_zero]
    · rw [ih (n / 10) (by omega) (by omega)]
      conv => rhs; rw [Lib.decDigits, dif_neg h]
theorem topd_len (n g : Nat) : (topd n g).length = (dg 10 n).length - g := by simp [topd]
/-- Bytes as they lie in memory. -/
def byz (l : List UInt8) : List Int := l.map fun b => (b.toNat : Int)
theorem byz_app (l m : List UInt8) : byz (l ++ m) = byz l ++ byz m := by simp [byz]
theorem dig_byte {d : Int} (h0 : 0 ≤ d) (h1 : d < 10) : byz [UInt8.ofNat (48 + d.toNat)] = [48 + d] := by
  simp [byz]; omega
/-- Bytes that the call has made, as a string. -/
theorem own_string {w : World} {base n : Nat} {v : Value} {l : List UInt8} (h : w.ownsRow base 5 1 v n ((byz l).map (Value.int .u8))) (hl : 0 < l.length) :
    (convert 101 9 v).run Tryz.prog w = .ok (.string ⟨l.toArray⟩) w := by
  obtain ⟨A, c, rfl, hc, hm, hr, hn⟩ := own_row h
  obtain ⟨a, rfl, -⟩ := hr 0 (by simpa [byz] using hl)
  have e : (byz l).length = l.length := by simp [byz]
  rw [e]
  refine run_convert_bytes_back w _ _ 5 a c l Tryz.underlying101 Tryz.underlying5 Tryz.underlying9 fun j hj => ?_
  obtain ⟨a', e', h2⟩ := hr j (by rw [e]; exact hj)
  cases e'
  rw [h2]
  simp [byz, List.getElem?_eq_getElem hj]

theorem itoa_head (z : Int) (h : z ≠ 0) : Lib.itoa z = (if z < 0 then [45] else []) ++ topd z.natAbs 0 := by
  rw [topd_zero _ (by omega)]
  unfold Lib.itoa
  split
  · rfl
  · rw [show z.toNat = z.natAbs by omega]; rfl

set_option maxRecDepth 100000 in
set_option maxHeartbeats 4000000 in
theorem rtext_c (v : Value) (z : Int) (w : World) (h : Ri w v z) (hm : (dg 10 z.natAbs).length ≤ 1000000) :
    Calls Tryz.prog 62 #[v] w fun e w' => e = .returned (.string ⟨(Lib.itoa z).toArray⟩) ∧ Below w.heap.size w w' := by
  obtain ⟨p, rfl, hp⟩ := h
  obtain ⟨A, c, rfl, hc, _, hr⟩ := hp
  by_cases hz : z = 0
  · subst hz
    have hn : (dg 10 (0 : Int).natAbs).length = 0 := by rw [Int.natAbs_zero, dg_zero]; rfl
    rw [hn, itoa_zero]
    clear hr hc hn
    go_enter Tryz.func62, Tryz.ntmps62
    go_wp2_with fail
    go_ret
    exact ⟨rfl, (Below.refl _ _).alloc (Nat.le_refl _) _⟩
  · obtain ⟨N, hN⟩ : ∃ N, z.natAbs = N := ⟨_, rfl⟩
    rw [hN] at hr hm hc ⊢
    have hn0 : 0 < (dg 10 N).length := List.length_pos_iff.2 fun e => by have := (dg_eq_nil (by decide)).1 e; omega
    have HIN := Lib.hid (dg_inR (b := 10) (by decide) N)
    have HTX := Lib.hid (itoa_head z hz)
    obtain ⟨i0, hi, hz0, hz1, hz2⟩ := info_parts info_byte
    have HI := Lib.hid (And.intro hi (And.intro hz0 (And.intro hz1 hz2)))
    clear hi hz0 hz1 hz2
    have hneq : (((dg 10 N).length : Int) == 0) = false := by rw [beq_eq_false_iff_ne]; omega
    obtain ⟨pre, hpre⟩ : ∃ pre : List UInt8, (if z < 0 then [45] else []) = pre := ⟨_, rfl⟩
    rw [hpre, hN] at HTX
    rw [HTX.out]
    obtain ⟨r, hr9⟩ : ∃ r : ByteArray, ⟨(pre ++ topd N 0).toArray⟩ = r := ⟨_, rfl⟩
    rw [hr9]
    have HRB := Lib.hid hr9
    clear hr9
    have hsize := fun g => topd_len N g
    have HSZ := Lib.hid hsize
    clear hsize
    obtain ⟨L, hL⟩ : ∃ L, (dg 10 N).length = L := ⟨_, rfl⟩
    obtain ⟨sg, hsg⟩ : ∃ sg, decide (z < 0) = sg := ⟨_, rfl⟩
    have HL := Lib.hid hL
    rw [hL] at hm hn0 hneq hc ⊢
    rw [hsg]
    have HTE := Lib.hid (topd_end N)
    rw [hL] at HTE
    clear hL
    have HPRE : Hid (pre = if sg then [45] else []) := by
      show _ = _
      rw [← hpre, ← hsg]
      by_cases h : z < 0 <;> simp [h]
    clear hpre hsg hN hz
    obtain ⟨W, hW, c0, f0, hbel, hs1⟩ := boxes1 w #[.slice A L c, .bool sg] 32
    have c00 := c0 0; have c01 := c0 1
    simp at c00 c01
    have hs2 : w.heap.size + 1 ≤ W.heap.size := by omega
    clear hs1
    have HB0 := Lib.hid hbel.to
    have HR := Lib.hid (hr.below hbel.to)
    clear c0 f0 hbel hr
    have C00 := Lib.hid c00; have C01 := Lib.hid c01
    cases sg
    · obtain rfl : pre = [] := HPRE.out
      clear HPRE
      go_enter Tryz.func62, Tryz.ntmps62
      go_wp2_with fail
      go_loopg [3, 4] L (fun g v i wr => i = .int .i64 ((g : Int) - 1) ∧ g ≤ L ∧ Hid (wr.ownsRow W.heap.size 5 1 v ((L - g)) ((byz (topd N g)).map (Value.int .u8))) ∧ Hid (Below W.heap.size W wr))
      case atStart => exact ⟨rfl, Nat.le_refl _, by rw [HTE.out, Nat.sub_self]; exact World.ownsRow_nil _ _ _ _, Below.refl _ _⟩
      case round =>
        obtain ⟨rfl, hg, HOW, HB⟩ := hrel
        have c00 := keep_cell HB.out C00.out
        have c01 := keep_cell HB.out C01.out
        by_cases hg0 : gk = 0
        · subst hg0
          have hcv := own_string HOW.out (by rw [topd_len]; have := HL.out; omega)
          have HRB2 := HRB.out
          rw [List.nil_append] at HRB2
          rw [HRB2] at hcv
          clear HRB2 HOW
          go_wp2_with fail
          go_ret
          exact ⟨rfl, below_then' HB0.out HB.out⟩
        · obtain ⟨g, rfl⟩ : ∃ g, gk = g + 1 := ⟨gk - 1, by omega⟩
          rw [show (((g + 1 : Nat) : Int) - 1) = (g : Int) by omega]
          have hlt : g < L := by omega
          obtain ⟨a1, rfl, hcell⟩ := (HR.out.below HB.out) g (by rw [HL.out]; exact hlt)
          have hst := topd_step N g (by rw [HL.out]; exact hlt)
          obtain ⟨d0, d1⟩ := HIN.out.at_ (by decide) g
          rw [List.getD_eq_getElem?_getD] at d0 d1
          obtain ⟨d, hd⟩ : ∃ d, (dg 10 N)[g]?.getD 0 = d := ⟨_, rfl⟩
          rw [hd] at hcell hst d0 d1
          have hd1 : d < 10 := d1
          have HST := Lib.hid hst
          have HDB := Lib.hid (dig_byte d0 hd1)
          have hwr : IntKind.u8.wrap (48 + d) = 48 + d := by rw [show IntKind.u8.wrap (48 + d) = (48 + d) % 256 from rfl]; omega
          have j0 : (0 : Int) ≤ (g : Int) := by omega
          have j1 : (g : Int) < (L : Int) := by omega
          have hsz := HB.out.size
          clear hst hd d1
          go_wp2_with (at_builtin; refine wpList_append_own _ rfl _ _ 101 rfl W.heap.size 5 i0 (.int .u8 0) 1 1 Tryz.underlying101 HI.out.1 HI.out.2.1 HI.out.2.2.1 HI.out.2.2.2 rfl (by decide) _ _ _ rfl (HOW.out.alloc _) ⟨wr.heap.size, 0, none⟩ 1 1 [.int .u8 (48 + d)] rfl rfl (cell_one_new _ _ _) (by simp [Value.oneCell']) (by unfold maxLen; omega) (by omega) (by simp; omega) ?_; intro v' w1 hown1 hgrow1 _; have HO1 := Lib.hid hown1; have HG1 := Lib.hid hgrow1; clear hown1 hgrow1)
          go_roundg g
          case measure => omega
          case rel =>
            refine ⟨rfl, by omega, ?_, ?_⟩
            · have h1 := HO1.out
              rw [HST.out, byz_app, List.map_append, HDB.out, show L - g = L - (g + 1) + 1 by omega]
              exact h1
            · exact (HB.out.alloc hsz _).grown HG1.out (by simp; omega) ((own_from HOW.out).mono (by omega))
    · obtain rfl : pre = [45] := HPRE.out
      clear HPRE
      have HN0 := Lib.hid (World.ownsRow_nil W W.heap.size 5 1)
      go_enter Tryz.func62, Tryz.ntmps62
      go_upto_region 5 with fail
      try rw [hW]
      go_wp2_with (at_builtin; refine wpList_append_own _ rfl _ _ 101 rfl W.heap.size 5 i0 (.int .u8 0) 1 1 Tryz.underlying101 HI.out.1 HI.out.2.1 HI.out.2.2.1 HI.out.2.2.2 rfl (by decide) _ _ _ rfl (HN0.out.alloc _) ⟨W.heap.size, 0, none⟩ 1 1 [.int .u8 (45)] rfl rfl (cell_one_new _ _ _) (by simp [Value.oneCell']) (by unfold maxLen; omega) (by omega) (by simp) ?_; intro v' w1 hown1 hgrow1 _; have HO1 := Lib.hid hown1; have HG1 := Lib.hid hgrow1; have HOA : Hid (w1.ownsRow W.heap.size 5 1 v' 1 ((byz [45]).map (Value.int .u8))) := hown1; have HB1 : Hid (Below W.heap.size W w1) := ((Below.refl _ _).alloc (Nat.le_refl _) _).grown hgrow1 (by simp) (fun k hk => by cases hk); have c00 := keep_cell HB1.out c00; have c01 := keep_cell HB1.out c01; clear hown1 hgrow1)
      go_loopg [3, 4] L (fun g v i wr => i = .int .i64 ((g : Int) - 1) ∧ g ≤ L ∧ Hid (wr.ownsRow W.heap.size 5 1 v (1 + (L - g)) ((byz ([45] ++ topd N g)).map (Value.int .u8))) ∧ Hid (Below W.heap.size W wr))
      case atStart => exact ⟨rfl, Nat.le_refl _, by rw [HTE.out, Nat.sub_self]; exact HOA.out, HB1.out⟩
      case round =>
        obtain ⟨rfl, hg, HOW, HB⟩ := hrel
        have c00 := keep_cell HB.out C00.out
        have c01 := keep_cell HB.out C01.out
        by_cases hg0 : gk = 0
        · subst hg0
          have hcv := own_string HOW.out (by rw [List.length_append, topd_len]; have := HL.out; omega)
          rw [HRB.out] at hcv
          clear HOW
          go_wp2_with fail
          go_ret
          exact ⟨rfl, below_then' HB0.out HB.out⟩
        · obtain ⟨g, rfl⟩ : ∃ g, gk = g + 1 := ⟨gk - 1, by omega⟩
          rw [show (((g + 1 : Nat) : Int) - 1) = (g : Int) by omega]
          have hlt : g < L := by omega
          obtain ⟨a1, rfl, hcell⟩ := (HR.out.below HB.out) g (by rw [HL.out]; exact hlt)
          have hst := topd_step N g (by rw [HL.out]; exact hlt)
          obtain ⟨d0, d1⟩ := HIN.out.at_ (by decide) g
          rw [List.getD_eq_getElem?_getD] at d0 d1
          obtain ⟨d, hd⟩ : ∃ d, (dg 10 N)[g]?.getD 0 = d := ⟨_, rfl⟩
          rw [hd] at hcell hst d0 d1
          have hd1 : d < 10 := d1
          have HST := Lib.hid hst
          have HDB := Lib.hid (dig_byte d0 hd1)
          have hwr : IntKind.u8.wrap (48 + d) = 48 + d := by rw [show IntKind.u8.wrap (48 + d) = (48 + d) % 256 from rfl]; omega
          have j0 : (0 : Int) ≤ (g : Int) := by omega
          have j1 : (g : Int) < (L : Int) := by omega
          have hsz := HB.out.size
          clear hst hd d1
          go_wp2_with (at_builtin; refine wpList_append_own _ rfl _ _ 101 rfl W.heap.size 5 i0 (.int .u8 0) 1 1 Tryz.underlying101 HI.out.1 HI.out.2.1 HI.out.2.2.1 HI.out.2.2.2 rfl (by decide) _ _ _ rfl (HOW.out.alloc _) ⟨wr.heap.size, 0, none⟩ 1 1 [.int .u8 (48 + d)] rfl rfl (cell_one_new _ _ _) (by simp [Value.oneCell']) (by unfold maxLen; omega) (by omega) (by simp; omega) ?_; intro v' w1 hown1 hgrow1 _; have HO1 := Lib.hid hown1; have HG1 := Lib.hid hgrow1; clear hown1 hgrow1)
          go_roundg g
          case measure => omega
          case rel =>
            refine ⟨rfl, by omega, ?_, ?_⟩
            · have h1 := HO1.out
              rw [HST.out, ← List.append_assoc, byz_app, List.map_append, HDB.out, show L - g = L - (g + 1) + 1 by omega]
              exact h1
            · exact (HB.out.alloc hsz _).grown HG1.out (by simp; omega) ((own_from HOW.out).mono (by omega))
end Go.Proofs.YtbjgpbdkofadiaaGreatDoor
