/- The reference's greatest common divisor of natural numbers. -/
import Derived.Test.YtbjgpbdkofadiaaGreatDoorRefN
namespace Go.Proofs.YtbjgpbdkofadiaaGreatDoor
set_option linter.unusedVariables false
set_option linter.unusedSimpArgs false
open Go.RowKit Go.Shelf

/-- A call returns digits of n, from wherever. -/
def DgR (n : Nat) (w : World) (e : Ending) (w' : World) : Prop := ∃ v, e = .returned v ∧ Dg 10 w' v n ∧ Below w.heap.size w w'

theorem fld_rest (A A' : Option Addr) (n c n' c' : Nat) (w : World) : (Instr.field 85 (.agg #[.slice A n c, .slice A' n' c']) 1).run Tryz.prog w = .ok (.slice A' n' c') w := by kernel_rfl
theorem fld_a (A A' : Option Addr) (n c n' c' : Nat) (b b' : Bool) (w : World) : (Instr.field 42 (.agg #[.slice A n c, .bool b, .slice A' n' c', .bool b']) 0).run Tryz.prog w = .ok (.agg #[.slice A n c, .bool b]) w := by kernel_rfl
theorem fld_b (A A' : Option Addr) (n c n' c' : Nat) (b b' : Bool) (w : World) : (Instr.field 42 (.agg #[.slice A n c, .bool b, .slice A' n' c', .bool b']) 1).run Tryz.prog w = .ok (.agg #[.slice A' n' c', .bool b']) w := by kernel_rfl
theorem fld_n (A : Option Addr) (n c : Nat) (b : Bool) (w : World) : (Instr.field 32 (.agg #[.slice A n c, .bool b]) 0).run Tryz.prog w = .ok (.slice A n c) w := by kernel_rfl

set_option maxRecDepth 100000 in
set_option maxHeartbeats 2000000 in
theorem rgcd_nat_c (v1 v2 : Value) (m n : Nat) (w : World) (h1 : Dg 10 w v1 m) (h2 : Dg 10 w v2 n) (hm : (dg 10 m).length ≤ 999999) (hn : (dg 10 n).length ≤ 999999) :
    Calls Tryz.prog 79 #[v1, v2] w (DgR (Nat.gcd m n) w) := by
  have H1 := Lib.hid h1; have H2 := Lib.hid h2; have HM := Lib.hid hm; have HN := Lib.hid hn
  clear h1 h2 hm hn
  have hfl := fld_rest
  go_enter Tryz.func79, Tryz.ntmps79
  go_wp2_with fail
  go_loopg [0, 1] n (fun g av bv wr => ∃ m', Hid (Dg 10 wr av m') ∧ Hid (Dg 10 wr bv g) ∧ Hid (Nat.gcd m' g = Nat.gcd m n) ∧ Hid ((dg 10 m').length ≤ 999999) ∧ Hid ((dg 10 g).length ≤ 999999) ∧ Hid (Below w.heap.size w wr))
  case atStart => exact ⟨m, H1.out, H2.out, rfl, HM.out, HN.out, Below.refl _ _⟩
  case round =>
    obtain ⟨m', HA, HB, HG, HLA, HLB, HW⟩ := hrel
    obtain ⟨A, L, c, hf⟩ := HB.out.form
    have hL : L = (dg 10 gk).length := by obtain ⟨A', c', e, -⟩ := HB.out; rw [hf] at e; simp at e; exact e.2.1
    subst hf
    by_cases hg0 : gk = 0
    · subst hg0
      obtain rfl : L = 0 := by rw [hL, dg_zero]; rfl
      clear hL
      go_wp2_with fail
      go_ret
      exact ⟨_, rfl, by have := HG.out; rw [Nat.gcd_zero_right] at this; rw [← this]; exact HA.out, HW.out⟩
    · have hp : 0 < L := by
        have h := dg_eq_nil (b := 10) (n := gk) (by decide)
        rw [← List.length_eq_zero_iff, ← hL] at h
        omega
      have HLC : Hid ((dg 10 m').length ≤ 1000000) := by show _ ≤ _; have := HLA.out; omega
      have HP : Hid (0 < gk) := by show _ < _; omega
      clear hL
      go_wp2_with (go_at_call 67; (with_reducible refine (natDiv_c _ _ m' gk _ HA.out HB.out HP.out HLC.out HLB.out).mono ?_); rintro e W2 ⟨q, r, rfl, hq, hr, -, -, hbz⟩; obtain ⟨A3, n3, c3, rfl⟩ := hq.form; obtain ⟨A4, n4, c4, rfl⟩ := hr.form; have HR := Lib.hid hr; have HBZ := Lib.hid hbz; clear hq hr hbz)
      go_roundg (m' % gk)
      case measure => exact Nat.mod_lt _ HP.out
      case rel => exact ⟨gk, HB.out.below HBZ.out, HR.out, by show _ = _; rw [← HG.out, Nat.gcd_comm gk, ← Nat.gcd_rec, Nat.gcd_comm], HLB.out, Nat.le_trans (dg_length_mono (by decide) (Nat.le_of_lt (Nat.mod_lt _ HP.out))) HLB.out, below_then' HW.out HBZ.out⟩
end Go.Proofs.YtbjgpbdkofadiaaGreatDoor
