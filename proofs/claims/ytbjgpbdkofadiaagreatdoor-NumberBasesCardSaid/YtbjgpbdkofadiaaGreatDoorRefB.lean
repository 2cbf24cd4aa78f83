/- The reference's natural numbers: products. -/
import Derived.Test.YtbjgpbdkofadiaaGreatDoorRefA
namespace Go.Proofs.YtbjgpbdkofadiaaGreatDoor
set_option linter.unusedVariables false
set_option linter.unusedSimpArgs false
open Go.RowKit

theorem make_nat (m : Nat) (a : Int) (ha : a = (m : Int)) (hn : m ≤ 10000000) :
    ∀ W : World, (Instr.makeSlice 30 (.int .i64 a) (.int .i64 a)).run Tryz.prog W = .ok (.slice (some ⟨W.heap.size, 0, none⟩) m m) (W.alloc (.cells (madeCells #[.int .i64 0] m) 3)) := by
  intro W
  subst ha
  exact run_make_row' 30 3 (.int .i64 0) 8 Tryz.underlying30 info_int rfl .i64 .i64 m (by omega) (by omega) W

/-- The end of a row of a product: what is carried goes to a place that is 0. -/
theorem mul_last {b : Nat} {p q l : List Int} {i : Nat} {c x : Int} (hx : p[i]?.getD 0 = x) (hil : i + q.length < l.length) (hz : l[i + q.length]?.getD 0 = 0)
    (hv : val b l + (b : Int) ^ (i + q.length) * c = val b (p.take i) * val b q + (b : Int) ^ i * (x * val b (q.take q.length))) : val b (l.set (i + q.length) c) = val b (p.take (i + 1)) * val b q := by
  rw [val_set _ _ _ _ hil, List.getD_eq_getElem?_getD, hz, val_take_succ, List.getD_eq_getElem?_getD, hx]
  rw [show q.take q.length = q from List.take_of_length_le (Nat.le_refl _)] at hv
  grind

set_option maxRecDepth 100000 in
set_option maxHeartbeats 4000000 in
theorem natMul_c (v1 v2 : Value) (m n : Nat) (w : World) (h1 : Dg 10 w v1 m) (h2 : Dg 10 w v2 n) (hm : (dg 10 m).length ≤ 1000000) (hn : (dg 10 n).length ≤ 1000000) :
    Calls Tryz.prog 63 #[v1, v2] w (DgP 10 (m * n) w) := by
  obtain ⟨A1, c1, rfl, hc1, _, hr1⟩ := h1
  obtain ⟨A2, c2, rfl, hc2, _, hr2⟩ := h2
  have HR1 := Lib.hid hr1
  have HR2 := Lib.hid hr2
  have I1 := Lib.hid (dg_inR (b := 10) (by decide) m)
  have I2 := Lib.hid (dg_inR (b := 10) (by decide) n)
  have V1 := Lib.hid (val_dg (b := 10) (by decide) m)
  have V2 := Lib.hid (val_dg (b := 10) (by decide) n)
  clear hr1 hr2
  generalize dg 10 m = p at *
  generalize dg 10 n = q at *
  have hmk := make_nat (p.length + q.length) (↑p.length + ↑q.length) (by simp) (by omega)
  obtain ⟨N, hN⟩ : ∃ N, p.length + q.length = N := ⟨_, rfl⟩
  rw [hN] at hmk
  go_enter Tryz.func63, Tryz.ntmps63
  go_wp2_with fail
  clear hmk
  have hown0 := own_zeros w N (by omega)
  have hB0 := (Below.refl w.heap.size w).alloc (Nat.le_refl _) (.cells (madeCells #[.int .i64 0] N) 3)
  generalize w.alloc (.cells (madeCells #[.int .i64 0] N) 3) = w0 at *
  have HN := Lib.hid hN
  have HB0 := Lib.hid hB0
  have HO0 := Lib.hid hown0
  clear hN hB0 hown0
  go_loopg [6, 7, 8, 9] p.length (fun g iv s7 s8 s9 wr => ∃ (i : Nat) (l : List Int), iv = .int .i64 i ∧ i + g = p.length ∧ Hid (wr.ownsRow w.heap.size 3 1 (.slice (some ⟨w.heap.size, 0, none⟩) N N) N (l.map (Value.int .i64))) ∧ Hid (l.length = N ∧ InR 10 l ∧ (∀ j, i + q.length ≤ j → l[j]?.getD 0 = 0) ∧ val 10 l = val 10 (p.take i) * val 10 q) ∧ Hid (Below w.heap.size w wr))
  case atStart => exact ⟨0, List.replicate N 0, rfl, by omega, HO0.out, ⟨by simp, InR.replicate (by decide) _, fun j _ => by rw [List.getElem?_replicate]; split <;> rfl, by simp [val_replicate, val]⟩, HB0.out⟩
  case round =>
    obtain ⟨i, l, rfl, hg, HOW, HL, HB⟩ := hrel
    by_cases hlt : i < p.length
    · obtain ⟨g, rfl⟩ : ∃ g, gk = g + 1 := ⟨gk - 1, by omega⟩
      have HG := Lib.hid hg
      clear hg
      obtain ⟨b10, b11⟩ := I1.out.at_ (by decide) i
      rw [List.getD_eq_getElem?_getD] at b10 b11
      obtain ⟨x, hx⟩ : ∃ x, p[i]?.getD 0 = x := ⟨_, rfl⟩
      rw [hx] at b10 b11
      have HX := Lib.hid hx
      clear hx
      go_wp2_with fail
      go_loopg [7, 8, 9] q.length (fun g cv kv s9 w3 => ∃ (k : Nat) (c : Int) (l2 : List Int), kv = .int .i64 k ∧ cv = .int .i64 c ∧ k + g = q.length ∧ 0 ≤ c ∧ c < 10 ∧ Hid (w3.ownsRow w.heap.size 3 1 (.slice (some ⟨w.heap.size, 0, none⟩) N N) N (l2.map (Value.int .i64)))
        ∧ Hid (l2.length = N ∧ InR 10 l2 ∧ (∀ j, i + q.length ≤ j → l2[j]?.getD 0 = 0) ∧ val 10 l2 + (10 : Int) ^ (i + k) * c = val 10 (p.take i) * val 10 q + (10 : Int) ^ i * (x * val 10 (q.take k))) ∧ Hid (Below w.heap.size w w3))
      case atStart => exact ⟨0, 0, l, rfl, rfl, by omega, by omega, by omega, HOW.out, ⟨HL.out.1, HL.out.2.1, HL.out.2.2.1, by rw [HL.out.2.2.2]; simp [val]⟩, HB.out⟩
      case round =>
        obtain ⟨k, c, l2, rfl, rfl, hg, hc0, hc1', HOW3, HL3, HB3⟩ := hrel
        have hNi : i + q.length < N := by have := HN.out; omega
        have hNm : N ≤ 2000000 := by have := HN.out; omega
        by_cases hlt2 : k < q.length
        · obtain ⟨g, rfl⟩ : ∃ g, gk = g + 1 := ⟨gk - 1, by omega⟩
          have HG3 := Lib.hid hg
          clear hg
          have HP := Lib.hid (HR1.out.below HB3.out)
          have HQ := Lib.hid (HR2.out.below HB3.out)
          obtain ⟨b20, b21⟩ := I2.out.at_ (by decide) k
          rw [List.getD_eq_getElem?_getD] at b20 b21
          obtain ⟨y, hy⟩ : ∃ y, q[k]?.getD 0 = y := ⟨_, rfl⟩
          rw [hy] at b20 b21
          obtain ⟨m0, m1⟩ := mul_bound b10 b11 b20 b21
          obtain ⟨hll, hli, hlz, hlv⟩ := HL3.out
          obtain ⟨z0, z1⟩ := hli.at_ (by decide) (i + k)
          rw [List.getD_eq_getElem?_getD] at z0 z1
          have hcz := own_cell HOW3.out (i + k) (by omega) hll
          have hfz : wr.frozen? ⟨w.heap.size, i + k, none⟩ = false := HOW3.out.frozenAt (i + k)
          obtain ⟨z, hz⟩ : ∃ z, l2[i + k]?.getD 0 = z := ⟨_, rfl⟩
          rw [hz] at z0 z1 hcz
          obtain ⟨a1, rfl, hcell⟩ := HP.out i hlt
          obtain ⟨a2, rfl, hcell2⟩ := HQ.out k hlt2
          rw [HX.out] at hcell
          rw [hy] at hcell2
          have HY := Lib.hid hy
          have HZ := Lib.hid hz
          have HLI := Lib.hid hli
          have HLL := Lib.hid hll
          have HLZ := Lib.hid hlz
          have HLV := Lib.hid hlv
          clear hy hz hli hlv hlz hll
          have hxy : x * y ≤ 81 := by simpa using m1
          clear m1
          have j0 : (0 : Int) ≤ (i : Int) + (k : Int) := by omega
          have j1 : (i : Int) + (k : Int) < (N : Int) := by omega
          have j2 : (i : Int) < (p.length : Int) := by omega
          have j3 : (k : Int) < (q.length : Int) := by omega
          have j4 : (0 : Int) ≤ (i : Int) := by omega
          have j5 : (0 : Int) ≤ (k : Int) := by omega
          go_wp2_with fail
          go_quiet (fail)
          go_wp2
          go_roundg g
          case measure => omega
          case rel =>
            refine ⟨k + 1, (z + x * y + c) / 10, l2.set (i + k) ((z + x * y + c) % 10), rfl, rfl, by have := HG3.out; omega, by omega, by omega, ?_, ⟨by simpa using HLL.out, HLI.out.set _ (by omega) (by omega), fun j hj => ?_, mul_step (b := 10) (by have := HLL.out; omega) HLV.out HY.out HZ.out rfl (by omega)⟩, ?_⟩
            · exact own_drewN (store_own HOW3.out _ _) nq
            · rw [List.getElem?_set_ne (by omega)]; exact HLZ.out j hj
            · exact below_drewN (HB3.out.setCell (p := ⟨w.heap.size, i + k, none⟩) (Nat.le_refl _) _) nq
        · obtain rfl : k = q.length := by omega
          obtain ⟨hll, hli, hlz, hlv⟩ := HL3.out
          have hcz := own_cell HOW3.out (i + q.length) (by omega) hll
          have hfz : wr.frozen? ⟨w.heap.size, i + q.length, none⟩ = false := HOW3.out.frozenAt (i + q.length)
          rw [hlz _ (Nat.le_refl _)] at hcz
          have hrow := Lib.hid (mul_last (b := 10) HX.out (by omega) (hlz _ (Nat.le_refl _)) hlv)
          have HLI := Lib.hid hli
          have HLL := Lib.hid hll
          have HLZ := Lib.hid hlz
          clear hli hlv hlz hll
          have j0 : (0 : Int) ≤ (i : Int) + (q.length : Int) := by omega
          have j1 : (i : Int) + (q.length : Int) < (N : Int) := by omega
          go_wp2
          go_roundg g
          case measure => omega
          case rel =>
            refine ⟨i + 1, l2.set (i + q.length) c, rfl, by have := HG.out; omega, store_own HOW3.out _ _, ⟨by simpa using HLL.out, HLI.out.set _ (by omega) (by omega), fun j hj => ?_, hrow.out⟩, HB3.out.setCell (p := ⟨w.heap.size, i + q.length, none⟩) (Nat.le_refl _) _⟩
            rw [List.getElem?_set_ne (by omega)]; exact HLZ.out j (by omega)
    · obtain rfl : i = p.length := by omega
      obtain ⟨hl, hi, hz, hv⟩ := HL.out
      have hval : val 10 l = ((m * n : Nat) : Int) := by rw [hv, List.take_of_length_le (Nat.le_refl _), V1.out, V2.out]; simp
      have HVAL := Lib.hid hval
      obtain ⟨A', c', hve, hlc', hcm', hrow, hln⟩ := own_row HOW.out
      obtain ⟨hA, -, hC⟩ := Value.slice.inj hve
      subst hA; subst hC
      have HROW := Lib.hid hrow
      have HIN := Lib.hid hi
      have hcm2 : N ≤ 9223372036854775807 := by unfold maxLen at hcm'; omega
      have hlc2 : l.length ≤ N := hlc'
      clear hi hv hrow hve hln hcm' hlc' HL HOW hval hz
      have hlen := Lib.hid hl
      clear hl
      go_wp2_with (go_at_call 61; rw [show (Value.slice (some ⟨w.heap.size, 0, none⟩) N N) = Value.slice (some ⟨w.heap.size, 0, none⟩) l.length N from by rw [hlen.out]]; refine (trim_c _ N l wr HROW.out hlc2 hcm2).mono ?_; intro e w' hcut; obtain ⟨rfl, v, rfl, hdg, hblk⟩ := cut_dg (b := 10) (by decide) HROW.out hlc2 hcm2 HIN.out HVAL.out hcut)
      go_ret
      exact ⟨v, rfl, hdg, fun g hg => by obtain ⟨a, ha, rfl⟩ := hblk g hg; cases ha; exact Nat.le_refl _, HB.out⟩
end Go.Proofs.YtbjgpbdkofadiaaGreatDoor
