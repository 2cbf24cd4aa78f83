/- The parts of a number: times, small. -/
import Derived.Test.YtbjgpbdkofadiaaGreatDoorParts2
import Derived.Deep.OwnRows
namespace Go.Proofs.YtbjgpbdkofadiaaGreatDoor
set_option linter.unusedVariables false
set_option linter.unusedSimpArgs false
open Go.RowKit
attribute [local go_sem] max2_int min2_int max_two min_two

theorem make_int (m : Nat) (a : Int) (ha : a = (m : Int)) (hn : m ≤ 10000000) :
    ∀ W : World, (Instr.makeSlice 70 (.int .i64 a) (.int .i64 a)).run Tryz.prog W = .ok (.slice (some ⟨W.heap.size, 0, none⟩) m m) (W.alloc (.cells (madeCells #[.int .i64 0] m) 3)) := by
  intro W
  subst ha
  exact run_make_row' 70 3 (.int .i64 0) 8 Tryz.underlying70 info_int rfl .i64 .i64 m (by omega) (by omega) W

theorem own_zeros (W : World) (m : Nat) (hm : m ≤ 10000000) : (W.alloc (.cells (madeCells #[.int .i64 0] m) 3)).ownsRow W.heap.size 3 1 (.slice (some ⟨W.heap.size, 0, none⟩) m m) m ((List.replicate m (0 : Int)).map (Value.int .i64)) := by
  have h := World.ownsRow_lit (e := 3) (size := 1) W (madeCells #[.int .i64 0] m) m (Nat.le_refl _) (by unfold maxLen; omega) (by simp [madeCells])
  rw [toList_madeCells_one] at h
  rw [List.map_replicate]
  exact h

/-- One place of a product. -/
theorem mul_step {b : Nat} {q l : List Int} {i k : Nat} {c x y z n d r T : Int} (hl : i + k < l.length) (hv : val b l + (b : Int) ^ (i + k) * c = T + (b : Int) ^ i * (x * val b (q.take k)))
    (hy : q[k]?.getD 0 = y) (hz : l[i + k]?.getD 0 = z) (hn : n = z + x * y + c) (hd : n = r + (b : Int) * d) :
    val b (l.set (i + k) r) + (b : Int) ^ (i + (k + 1)) * d = T + (b : Int) ^ i * (x * val b (q.take (k + 1))) := by
  rw [val_set _ _ _ _ hl, val_take_succ, List.getD_eq_getElem?_getD, List.getD_eq_getElem?_getD, hy, hz, ← Nat.add_assoc, Int.pow_succ, Int.pow_add] at *
  generalize (b : Int) ^ i = B at *
  generalize (b : Int) ^ k = C at *
  generalize val b (q.take k) = V at *
  generalize val b l = L at *
  have : B * C * (r + (b : Int) * d) = B * C * (z + x * y + c) := by rw [← hd, hn]
  grind

/-- The end of a row of a product: nothing is carried on. -/
theorem mul_row {b : Nat} (hb : 2 ≤ b) {p q l : List Int} {i : Nat} {c x : Int} (hp : InR b p) (hq : InR b q) (hi : i < p.length) (hil : InR b l) (hx : p[i]?.getD 0 = x) (hc : 0 ≤ c)
    (hv : val b l + (b : Int) ^ (i + (q.length + 1)) * c = val b (p.take i) * val b q + (b : Int) ^ i * (x * val b (q.take (q.length + 1)))) : val b l = val b (p.take (i + 1)) * val b q := by
  rw [show q.take (q.length + 1) = q from List.take_of_length_le (by omega)] at hv
  have e : val b (p.take (i + 1)) * val b q = val b (p.take i) * val b q + (b : Int) ^ i * (x * val b q) := by
    rw [val_take_succ, List.getD_eq_getElem?_getD, hx]; grind
  rw [← e] at hv
  have h1 := val_lt (hp.take (i + 1))
  have h1' := val_nonneg (hp.take (i + 1))
  rw [List.length_take, Nat.min_eq_left (by omega)] at h1
  have h2 := val_lt hq
  have h2' := val_nonneg hq
  have h0 := val_nonneg hil
  have g1 : val b (p.take (i + 1)) * val b q ≤ val b (p.take (i + 1)) * (b : Int) ^ q.length := Int.mul_le_mul_of_nonneg_left (by omega) h1'
  have g2 : (val b (p.take (i + 1)) + 1) * (b : Int) ^ q.length ≤ (b : Int) ^ (i + 1) * (b : Int) ^ q.length := Int.mul_le_mul_of_nonneg_right (by omega) (Int.pow_nonneg (by omega))
  have g3 : (b : Int) ^ (i + (q.length + 1)) = (b : Int) ^ (i + 1) * (b : Int) ^ q.length := by rw [← Int.pow_add]; congr 1; omega
  have g4 : 0 < (b : Int) ^ q.length := pow_pos' (by omega) _
  rw [Int.add_mul, Int.one_mul] at g2
  have hc0 : c = 0 := by
    rcases Int.lt_or_le 0 c with h | h
    · exfalso
      have : (b : Int) ^ (i + (q.length + 1)) * 1 ≤ (b : Int) ^ (i + (q.length + 1)) * c := Int.mul_le_mul_of_nonneg_left (by omega) (by rw [g3]; exact Int.mul_nonneg (Int.pow_nonneg (by omega)) (by omega))
      rw [g3] at this hv
      omega
    · omega
  subst hc0
  simpa using hv

theorem mul_bound {x y B : Int} (hx0 : 0 ≤ x) (hx1 : x < B) (hy0 : 0 ≤ y) (hy1 : y < B) : 0 ≤ x * y ∧ x * y ≤ (B - 1) * (B - 1) :=
  ⟨Int.mul_nonneg hx0 hy0, Int.le_trans (Int.mul_le_mul_of_nonneg_left (show y ≤ B - 1 by omega) hx0) (Int.mul_le_mul_of_nonneg_right (show x ≤ B - 1 by omega) (by omega))⟩

theorem store_own {w : World} {base : Nat} {e : TypeId} {g n cap : Nat} {l : List Int} (h : w.ownsRow base e 1 (.slice (some ⟨g, 0, none⟩) n cap) n (l.map (Value.int .i64))) (j : Nat) (x : Int) :
    (w.setCell ⟨g, j, none⟩ (.int .i64 x)).ownsRow base e 1 (.slice (some ⟨g, 0, none⟩) n cap) n ((l.set j x).map (Value.int .i64)) := by
  rw [List.map_set]; exact (h.stored j _).1

theorem own_cell {w : World} {base : Nat} {e : TypeId} {g n cap : Nat} {l : List Int} (h : w.ownsRow base e 1 (.slice (some ⟨g, 0, none⟩) n cap) n (l.map (Value.int .i64))) (j : Nat) (hj : j < n) (hl : l.length = n) :
    w.cell? ⟨g, j, none⟩ = some (.int .i64 (l[j]?.getD 0)) := by
  rw [h.cellAt j (by omega), List.getElem?_map, List.getElem?_eq_getElem (by omega)]; rfl

theorem own_setCell_other {w : World} {base : Nat} {e : TypeId} {size : Nat} {v : Value} {n : Nat} {xs : List Value} (h : w.ownsRow base e size v n xs) (a : Addr) (u : Value) (hne : v.ownBlock ≠ some a.block) : (w.setCell a u).ownsRow base e size v n xs :=
  h.kept (row := some a.block) ⟨rfl, rfl, rfl, by simp [World.setCell], fun k _ hk => heap_setCell_other w a k u (fun e => hk (by simp [e]))⟩ (.inr hne)

set_option maxHeartbeats 4000000 in
theorem times_c (v1 v2 : Value) (m n : Nat) (w : World) (h1 : Dg 1000000000 w v1 m) (h2 : Dg 1000000000 w v2 n) (hm : (dg 1000000000 m).length ≤ 1000000) (hn : (dg 1000000000 n).length ≤ 1000000) :
    Calls Tryz.prog 108 #[v1, v2] w (DgP 1000000000 (m * n) w) := by
  obtain ⟨A1, c1, rfl, hc1, _, hr1⟩ := h1
  obtain ⟨A2, c2, rfl, hc2, _, hr2⟩ := h2
  have HR1 := Lib.hid hr1
  have HR2 := Lib.hid hr2
  have I1 := Lib.hid (dg_inR (b := 1000000000) (by decide) m)
  have I2 := Lib.hid (dg_inR (b := 1000000000) (by decide) n)
  have V1 := Lib.hid (val_dg (b := 1000000000) (by decide) m)
  have V2 := Lib.hid (val_dg (b := 1000000000) (by decide) n)
  clear hr1 hr2
  generalize dg 1000000000 m = p at *
  generalize dg 1000000000 n = q at *
  have hmk := make_int (p.length + q.length) (↑p.length + ↑q.length) (by simp) (by omega)
  obtain ⟨N, hN⟩ : ∃ N, p.length + q.length = N := ⟨_, rfl⟩
  rw [hN] at hmk
  go_enter Tryz.func108, Tryz.ntmps108
  go_wp2_with fail
  clear hmk
  have hown0 := own_zeros w N (by omega)
  have hB0 := (Below.refl w.heap.size w).alloc (Nat.le_refl _) (.cells (madeCells #[.int .i64 0] N) 3)
  generalize w.alloc (.cells (madeCells #[.int .i64 0] N) 3) = w0 at *
  have HN := Lib.hid hN
  have HB0 := Lib.hid hB0
  have HO0 := Lib.hid hown0
  clear hN hB0 hown0
  go_loopg [19] p.length (fun g iv wr => ∃ (i : Nat) (l : List Int), iv = .int .i64 i ∧ i + g = p.length ∧ Hid (wr.ownsRow w.heap.size 3 1 (.slice (some ⟨w.heap.size, 0, none⟩) N N) N (l.map (Value.int .i64))) ∧ Hid (l.length = N ∧ InR 1000000000 l ∧ val 1000000000 l = val 1000000000 (p.take i) * val 1000000000 q) ∧ Hid (Below w.heap.size w wr))
  case atStart => exact ⟨0, List.replicate N 0, rfl, by omega, HO0.out, ⟨by simp, InR.replicate (by decide) _, by simp [val_replicate, val]⟩, HB0.out⟩
  case round =>
    obtain ⟨i, l, rfl, hg, HOW, HL, HB⟩ := hrel
    by_cases hlt : i < p.length
    · obtain ⟨g, rfl⟩ : ∃ g, gk = g + 1 := ⟨gk - 1, by omega⟩
      have HG := Lib.hid hg
      clear hg
      have HP := Lib.hid (HR1.out.below HB.out)
      obtain ⟨a, rfl, hcell⟩ := HP.out i hlt
      obtain ⟨b10, b11⟩ := I1.out.at_ (by decide) i
      rw [List.getD_eq_getElem?_getD] at b10 b11
      obtain ⟨x, hx⟩ : ∃ x, p[i]?.getD 0 = x := ⟨_, rfl⟩
      rw [hx] at b10 b11 hcell
      have HX := Lib.hid hx
      clear hx
      go_wp2_with fail
      obtain ⟨w2, hw2⟩ : ∃ w2, wr.alloc (.cells #[.int .i64 0, .int .i64 0] 146) = w2 := ⟨_, rfl⟩
      have hsz := HB.out.size
      have hgw : w.heap.size < wr.heap.size := by
        rcases HOW.out.2 with ⟨h, _⟩ | ⟨g', _, _, h, _, hh, _⟩
        · simp at h
        · have := (Array.getElem?_eq_some_iff.1 hh).1
          simp at h; omega
      have q0 : w2.cell? ⟨wr.heap.size, 0, none⟩ = some (.int .i64 0) ∧ w2.cell? ⟨wr.heap.size, 1, none⟩ = some (.int .i64 0) ∧ w2.frozen? ⟨wr.heap.size, 0, none⟩ = false ∧ w2.frozen? ⟨wr.heap.size, 1, none⟩ = false ∧ w2.heap.size = wr.heap.size + 1 := by
        subst hw2; exact ⟨new_cell _ _ _ _, new_cell _ _ _ _, new_free _ _ _ _, new_free _ _ _ _, by simp⟩
      have hOW2 : w2.ownsRow w.heap.size 3 1 (.slice (some ⟨w.heap.size, 0, none⟩) N N) N (l.map (Value.int .i64)) := by subst hw2; exact HOW.out.alloc _
      have hB2 : Below w.heap.size w w2 := by subst hw2; exact HB.out.alloc hsz _
      rw [hw2]
      obtain ⟨bc, hbc⟩ : ∃ bc, wr.heap.size = bc := ⟨_, rfl⟩
      rw [hbc] at q0 hgw ⊢
      clear hw2 hbc
      have HOW2 := Lib.hid hOW2
      have HB2 := Lib.hid hB2
      clear hOW2 hB2
      obtain ⟨q00, q01, q02, q03, q04⟩ := q0
      go_loopg [27] (q.length + 1) (fun g kv w3 => ∃ (k : Nat) (c c' : Int) (l2 : List Int), kv = .int .i64 k ∧ k + g = q.length + 1 ∧ 0 ≤ c ∧ c < 1000000000 ∧ Hid (w3.ownsRow w.heap.size 3 1 (.slice (some ⟨w.heap.size, 0, none⟩) N N) N (l2.map (Value.int .i64)))
        ∧ w3.cell? ⟨bc, 0, none⟩ = some (.int .i64 c) ∧ w3.cell? ⟨bc, 1, none⟩ = some (.int .i64 c') ∧ w3.frozen? ⟨bc, 0, none⟩ = false ∧ w3.frozen? ⟨bc, 1, none⟩ = false
        ∧ Hid (l2.length = N ∧ InR 1000000000 l2 ∧ val 1000000000 l2 + (1000000000 : Int) ^ (i + k) * c = val 1000000000 (p.take i) * val 1000000000 q + (1000000000 : Int) ^ i * (x * val 1000000000 (q.take k))) ∧ Hid (Below w.heap.size w w3))
      case atStart => exact ⟨0, 0, 0, l, rfl, by omega, by omega, by omega, HOW2.out, q00, q01, q02, q03, ⟨HL.out.1, HL.out.2.1, by rw [HL.out.2.2]; simp [val]⟩, HB2.out⟩
      case round =>
        clear q00 q01 q02 q03 q04
        obtain ⟨k, c, c', l2, rfl, hg, hc0, hc1', HOW3, r0, r1, r2, r3, HL3, HB3⟩ := hrel
        have hNi : i + q.length < N := by have := HN.out; omega
        have hNm : N ≤ 2000000 := by have := HN.out; omega
        by_cases hlt2 : k < q.length + 1
        · obtain ⟨g, rfl⟩ : ∃ g, gk = g + 1 := ⟨gk - 1, by omega⟩
          have HG3 := Lib.hid hg
          clear hg
          have HQ := Lib.hid (HR2.out.below HB3.out)
          obtain ⟨b20, b21⟩ := I2.out.at_ (by decide) k
          rw [List.getD_eq_getElem?_getD] at b20 b21
          obtain ⟨y, hy⟩ : ∃ y, q[k]?.getD 0 = y := ⟨_, rfl⟩
          rw [hy] at b20 b21
          obtain ⟨m0, m1⟩ := mul_bound b10 b11 b20 b21
          obtain ⟨hll, hli, hlv⟩ := HL3.out
          obtain ⟨z0, z1⟩ := hli.at_ (by decide) (i + k)
          rw [List.getD_eq_getElem?_getD] at z0 z1
          have hcz := own_cell HOW3.out (i + k) (by omega) hll
          have hfz : wr.frozen? ⟨w.heap.size, i + k, none⟩ = false := HOW3.out.frozenAt (i + k)
          obtain ⟨z, hz⟩ : ∃ z, l2[i + k]?.getD 0 = z := ⟨_, rfl⟩
          rw [hz] at z0 z1 hcz
          have HY := Lib.hid hy
          have HZ := Lib.hid hz
          have HLI := Lib.hid hli
          have HLV := Lib.hid hlv
          clear hy hz hli hlv
          have hxy : x * y ≤ 999999998000000001 := by simpa using m1
          clear m1
          have hne : ¬ bc = w.heap.size := by omega
          have hne' : ¬ w.heap.size = bc := by omega
          go_wp2_with fail
          go_quiet ((go_at_call 83; exact at_q A2 c2 q k y wr _ HQ.out HY.out))
          go_wp2
          go_roundg g
          case measure => omega
          case rel =>
            have e1 : (wr.setCell ⟨w.heap.size, i + k, none⟩ (.int .i64 ((z + x * y + c) % 1000000000))).ownsRow w.heap.size 3 1 (.slice (some ⟨w.heap.size, 0, none⟩) N N) N ((l2.set (i + k) ((z + x * y + c) % 1000000000)).map (Value.int .i64)) := store_own HOW3.out _ _
            refine ⟨k + 1, (z + x * y + c) / 1000000000, c, l2.set (i + k) ((z + x * y + c) % 1000000000), rfl, by have := HG3.out; omega, by omega, by omega, ?_, ?_, ?_, ?_, ?_, ⟨by simpa using hll, HLI.out.set _ (by omega) (by omega), mul_step (b := 1000000000) (by omega) HLV.out HY.out HZ.out rfl (by omega)⟩, ?_⟩
            · exact own_drewN (own_setCell_other (own_setCell_other e1 ⟨bc, 0, none⟩ _ (by simp [Value.ownBlock]; omega)) ⟨bc, 1, none⟩ _ (by simp [Value.ownBlock]; omega)) nq
            · exact set_other (a := ⟨bc, 1, none⟩) _ (by simp) (set_same _ (set_far (a := ⟨w.heap.size, i + k, none⟩) (b := ⟨bc, 0, none⟩) _ hne' r0))
            · exact set_same _ (set_other (a := ⟨bc, 0, none⟩) (b := ⟨bc, 1, none⟩) _ (by simp) (set_far (a := ⟨w.heap.size, i + k, none⟩) (b := ⟨bc, 1, none⟩) _ hne' r1))
            · simpa using r2
            · simpa using r3
            · exact below_drewN (((HB3.out.setCell (p := ⟨w.heap.size, i + k, none⟩) (Nat.le_refl _) _).setCell (p := ⟨bc, 0, none⟩) (Nat.le_of_lt hgw) _).setCell (p := ⟨bc, 1, none⟩) (Nat.le_of_lt hgw) _) nq
        · obtain rfl : k = q.length + 1 := by omega
          have hrow := Lib.hid (mul_row (b := 1000000000) (by decide) I1.out I2.out hlt HL3.out.2.1 HX.out hc0 HL3.out.2.2)
          go_wp2
          go_roundg g
          case measure => omega
          case rel => exact ⟨i + 1, l2, rfl, by have := HG.out; omega, HOW3.out, ⟨HL3.out.1, HL3.out.2.1, hrow.out⟩, HB3.out⟩
    · obtain rfl : i = p.length := by omega
      obtain ⟨hl, hi, hv⟩ := HL.out
      have hval : val 1000000000 l = ((m * n : Nat) : Int) := by rw [hv, List.take_of_length_le (Nat.le_refl _), V1.out, V2.out]; simp
      have HVAL := Lib.hid hval
      obtain ⟨A', c', hve, hlc', hcm', hrow, hln⟩ := own_row HOW.out
      obtain ⟨hA, -, hC⟩ := Value.slice.inj hve
      subst hA; subst hC
      have HROW := Lib.hid hrow
      have HIN := Lib.hid hi
      have hcm2 : N ≤ 9223372036854775807 := by unfold maxLen at hcm'; omega
      have hlc2 : l.length ≤ N := hlc'
      clear hi hv hrow hve hln hcm' hlc' HL HOW hval
      have hlen := Lib.hid hl
      clear hl
      go_wp2_with (go_at_call 89; rw [show (Value.slice (some ⟨w.heap.size, 0, none⟩) N N) = Value.slice (some ⟨w.heap.size, 0, none⟩) l.length N from by rw [hlen.out]]; refine (cut_c _ N l wr HROW.out hlc2 hcm2).mono ?_; intro e w' hcut; obtain ⟨rfl, v, rfl, hdg, hblk⟩ := cut_dg (b := 1000000000) (by decide) HROW.out hlc2 hcm2 HIN.out HVAL.out hcut)
      go_ret
      exact ⟨v, rfl, hdg, fun g hg => by obtain ⟨a, ha, rfl⟩ := hblk g hg; cases ha; exact Nat.le_refl _, HB.out⟩

/-- The one number in a slice of its own. -/
theorem lit_row (w : World) (x : Int) (t : TypeId) : Row .i64 (w.alloc (.cells #[.int .i64 x] t)) (some ⟨w.heap.size, 0, none⟩) [x] := by
  intro j hj
  have : j = 0 := by simpa using hj
  subst this
  exact ⟨_, rfl, by rw [add_lit]; exact new_cell _ _ _ _⟩

set_option maxHeartbeats 1000000 in
theorem small_c (v1 : Value) (m n : Nat) (w : World) (h1 : Dg 1000000000 w v1 m) (hm : (dg 1000000000 m).length ≤ 1000000) (hn : n < 1000000000) :
    Calls Tryz.prog 88 #[v1, .int .i64 n] w (DgP 1000000000 (m * n) w) := by
  have H1 := Lib.hid h1
  clear h1
  have hrow := Lib.hid (lit_row w n 3)
  have hb := Lib.hid ((Below.refl w.heap.size w).alloc (Nat.le_refl _) (.cells #[.int .i64 (n : Int)] 3))
  go_enter Tryz.func88, Tryz.ntmps88
  go_wp2_with fail
  refine (cut_c (some ⟨w.heap.size, 0, none⟩) 1 [(n : Int)] _ hrow.out (by simp) (by omega)).mono ?_
  intro e w' hcut
  obtain ⟨rfl, v, rfl, hdg, hblk⟩ := cut_dg (b := 1000000000) (n := n) (by decide) hrow.out (by simp) (by omega) (InR.cons (by omega) (by omega) (InR.nil _)) (by simp [val]) hcut
  have HD := Lib.hid hdg
  clear hcut hdg hblk
  have hl : (dg 1000000000 n).length ≤ 1 := (dg_length_le (by decide) _ _).2 (by omega)
  go_wp2_with fail
  refine (times_c v1 v m n _ (H1.out.below hb.out) HD.out hm (by omega)).mono ?_
  rintro e w' ⟨u, rfl, hu, hf, hb2⟩
  have HU := Lib.hid hu
  have HF := Lib.hid hf
  have HB2 := Lib.hid hb2
  clear hu hf hb2
  go_wp2
  go_ret
  exact ⟨u, rfl, HU.out, HF.out.mono (by simp), below_then' hb.out HB2.out⟩

end Go.Proofs.YtbjgpbdkofadiaaGreatDoor
