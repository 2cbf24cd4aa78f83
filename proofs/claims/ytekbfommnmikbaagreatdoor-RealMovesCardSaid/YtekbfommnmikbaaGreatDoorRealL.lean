/- Package real: the digits of a quotient. -/
import Derived.Test.YtekbfommnmikbaaGreatDoorRealK
import Derived.Stop.RegionWithIn
namespace Go.Proofs.YtekbfommnmikbaaGreatDoor
set_option linter.unusedVariables false
set_option linter.unusedSimpArgs false
open Go.RowKit Go.Shelf
attribute [local go_sem] Oper.semAt_some

/-- What is left of m behind k digits, times 10. -/
def qm (m n : Nat) : Nat → Nat
  | 0 => m
  | k + 1 => qm m n k % n * 10
def qitem (m n k : Nat) : Int × Bool := (((qm m n k / n : Nat) : Int), ((qm m n k % n : Nat) : Int) != 0)
theorem qm_lt {m n : Nat} (hn : 0 < n) (hm : m < 10 * n) : ∀ k, qm m n k < 10 * n
  | 0 => hm
  | k + 1 => by show qm m n k % n * 10 < 10 * n; have := Nat.mod_lt (qm m n k) hn; omega
theorem qitem_dig {m n : Nat} (hn : 0 < n) (hm : m < 10 * n) (k : Nat) : 0 ≤ (qitem m n k).1 ∧ (qitem m n k).1 < 10 := by
  have h : qm m n k / n < 10 := by rw [Nat.div_lt_iff_lt_mul hn]; exact qm_lt hn hm k
  obtain ⟨c, hc⟩ : ∃ c, qm m n k / n = c := ⟨_, rfl⟩
  rw [hc] at h
  unfold qitem
  rw [hc]
  exact ⟨Int.natCast_nonneg c, by show (c : Int) < 10; omega⟩
theorem grown_drewA (w : World) (row : Option Nat) : w.grownBy w.drew row := ⟨rfl, rfl, rfl, Nat.le_refl _, fun _ _ _ => rfl⟩

set_option maxRecDepth 100000 in
set_option maxHeartbeats 4000000 in
theorem quo1_endless (m n mb nb n₀ N : Nat) (w : World) (hn : 0 < n) (hm : m < 10 * n) (hn2 : n < 1000000000000) (hmb : mb < n₀) (hnb : nb < n₀) (hne : mb ≠ nb) (hsz : n₀ ≤ w.heap.size) (hc0 : w.heap[mb]? = some (.cells #[.int .i64 (m : Int)] 3 (0, 0))) (hc1 : w.heap[nb]? = some (.cells #[.int .i64 (n : Int)] 3 (0, 0))) :
    Endless Fence.wide 5 Tryz.prog 218 #[.pointer (some ⟨mb, 0, none⟩), .pointer (some ⟨nb, 0, none⟩)] (qitem m n) n₀ mb N w := by
  intro l J Jx W hWb hJN hJs hJg hJy hJ0
  have HQL := Lib.hid (qm_lt hn hm)
  have HY := Lib.hid hJy; have HJN := Lib.hid hJN; have HJS := Lib.hid hJs; have HJG := Lib.hid hJg
  have HW0 := Lib.hid ((hWb.block mb (by omega)).trans hc0); have HW1 := Lib.hid ((hWb.block nb (by omega)).trans hc1)
  clear hJy hJN hJs hJg hWb hc0 hc1
  refine callsIn_of_wp Tryz.func218 rfl trivial ?_ rfl
  simp only [Tryz.ntmps218, List.size_toArray, List.length_cons, List.length_nil, Nat.reduceAdd, Nat.reduceSub, Array.replicate_succ, Array.replicate_zero, List.push_toArray, List.append_toArray, List.nil_append, List.cons_append]
  gi_wp2_with fail
  gi_loopg [] N (fun g wr => ∃ k : Nat, k + g = N ∧ Hid (J k wr) ∧ Hid (wr.heap[mb]? = some (.cells #[.int .i64 (qm m n k : Int)] 3 (0, 0))) ∧ Hid (wr.heap[nb]? = some (.cells #[.int .i64 (n : Int)] 3 (0, 0))))
  case atStart => exact ⟨0, by omega, hJ0, HW0.out, HW1.out⟩
  case round =>
    obtain ⟨k, hk, HJ, HM, HN⟩ := hrel
    have HK := Lib.hid hk
    have hkN := HJN.out k wr HJ.out
    have c0 := cell_of_heap HM.out 0; have c1 := cell_of_heap HN.out 0
    simp at c0 c1
    obtain ⟨q, hq⟩ : ∃ q, qm m n k = q := ⟨_, rfl⟩
    rw [hq] at c0
    have HQ := Lib.hid hq
    have hq10 : q < 10 * n := by rw [← hq]; exact HQL.out k
    have hqd : (q : Int).tdiv (n : Int) = ((q / n : Nat) : Int) := rfl
    have hqm : (q : Int).tmod (n : Int) = ((q % n : Nat) : Int) := rfl
    have hnn : ¬ n = 0 := by omega
    obtain ⟨fn, tmps, assign, body, hy, hR⟩ := HY.out k wr.drew (HJG.out k wr wr.drew HJ.out (grown_drewA _ _))
    clear hk hq
    have hit : qitem m n k = (((q / n : Nat) : Int), ((q % n : Nat) : Int) != 0) := by unfold qitem; rw [HQ.out]
    rw [hit] at hy
    dsimp only at hy
    have hd9 : q / n < 10 := by rw [Nat.div_lt_iff_lt_mul hn]; exact hq10
    obtain ⟨c, hc⟩ : ∃ c, q / n = c := ⟨_, rfl⟩
    rw [hc] at hy hqd hd9
    obtain ⟨r, hr⟩ : ∃ r, q % n = r := ⟨_, rfl⟩
    have hrn : r < n := by rw [← hr]; exact Nat.mod_lt q hn
    rw [hr] at hy hqm
    have HR := Lib.hid hr
    have hwc : IntKind.u8.wrap (c : Int) = (c : Int) := by rw [show IntKind.u8.wrap (c : Int) = (c : Int) % 256 from rfl]; omega
    have hwi : IntKind.i64.wrap (c : Int) = (c : Int) := IntWalk.i64_in _ (by omega)
    have HRR := Lib.hid hR
    clear hr hc hit hR
    gi_wp2_with fail
    gi_cut [13] from 4 (fun v wx => ∃ b, v = .bool b ∧ Hid (b = true → J (k + 1) wx ∧ Below n₀ wr.drew wx) ∧ Hid (b = false → Jx (k + 1) wx))
    case first =>
      gi_region_with (refine HRR.out.mono ?_; rintro e W3 he; obtain ⟨b, rfl, hbt, hbf⟩ : ∃ b, e = .returned (.bool b) ∧ (b = true → J (k + 1) W3 ∧ Below n₀ wr.drew W3) ∧ (b = false → Jx (k + 1) W3) := (by rcases he with ⟨rfl, h⟩ | ⟨rfl, h⟩; exact ⟨true, rfl, fun _ => h, fun h => (by cases h)⟩; exact ⟨false, rfl, fun h => (by cases h), fun _ => h⟩); have HBT := Lib.hid hbt; have HBF := Lib.hid hbf; clear he hbt hbf)
      all_goals
        gi_wp2_with fail
        gi_meet
        case rel => exact ⟨b, rfl, HBT.out, HBF.out⟩
    case rest =>
      obtain ⟨b, rfl, HBT, HBF⟩ := hcut
      cases b
      · have h9 := HBF.out rfl
        clear HBT HBF
        gi_wp2_with fail
        go_end0
        exact ⟨⟨_, rfl⟩, k, h9⟩
      obtain ⟨HJ1', HB1'⟩ := HBT.out rfl
      have HJ1 := Lib.hid HJ1'; have HB1 := Lib.hid HB1'
      clear HBT HBF HJ1' HB1'
      have hm1 := (HB1.out.block mb hmb).trans HM.out
      have hn1 := (HB1.out.block nb hnb).trans HN.out
      rw [HQ.out] at hm1
      have d0 := cell_of_heap hm1 0; have d1 := cell_of_heap hn1 0; have f0 := free_of_heap hm1 0
      have hrw : IntKind.i64.wrap ((r : Int) * 10) = (r : Int) * 10 := IntWalk.i64_in _ (by omega)
      simp at d0 d1
      have HM1 := Lib.hid hm1; have HN1 := Lib.hid hn1
      clear hm1 hn1
      gi_wp2_with fail
      go_roundg (gk - 1)
      case measure => have := HK.out; omega
      case rel =>
        refine ⟨k + 1, by have := HK.out; omega, HJS.out _ _ _ HJ1.out, ?_, (Below.heap_setCell _ _ _ _ (by simp; omega)).trans HN1.out⟩
        have := putB HM1.out 0 (.int .i64 ((r : Int) * 10))
        show _ = _
        rw [qm, HQ.out, HR.out]
        rw [show ((r * 10 : Nat) : Int) = (r : Int) * 10 by omega]
        simpa using this
end Go.Proofs.YtekbfommnmikbaaGreatDoor
