/- Package real: the digits of an int; near. -/
import Derived.Test.YtekbfommnmikbaaGreatDoorR2
import Derived.Test.YtekbfommnmikbaaGreatDoorAmt
import Derived.Test.YtekbfommnmikbaaGreatDoorShelfB
import Derived.Laws.IdiomStrings
namespace Go.Proofs.YtekbfommnmikbaaGreatDoor
set_option linter.unusedVariables false
set_option linter.unusedSimpArgs false
open Go.RowKit Go.Shelf Go.Proofs Go.Sort

theorem ret_i {k : IntKind} {a b : Int} (h : a = b) : Ending.returned (.int k a) = .returned (.int k b) := by rw [h]
theorem size_c (n : Int) (w : World) (h0 : -9223372036854775807 ≤ n) (h1 : n ≤ 9223372036854775807) :
    Calls Tryz.prog 100 #[.int .i64 n] w fun e w' => e = .returned (.int .i64 (n.natAbs : Int)) ∧ w = w' := by
  by_cases h : n < 0
  · go_enter Tryz.func100, Tryz.ntmps100
    go_wp2
    go_ret
    exact ⟨ret_i (by omega), rfl⟩
  · go_enter Tryz.func100, Tryz.ntmps100
    go_wp2
    go_ret
    exact ⟨ret_i (by omega), rfl⟩

/-- Bytes (as numbers) turned around. -/
theorem revb_c (g cap : Nat) (l : List Int) (w : World) (hc : ∀ j, j < l.length → w.cell? ⟨g, j, none⟩ = some (.int .u8 (l[j]?.getD 0))) (hf : ∀ j, w.frozen? ⟨g, j, none⟩ = false) (hl : l.length ≤ 9223372036854775807) :
    Calls Tryz.prog 156 #[.slice (some ⟨g, 0, none⟩) l.length cap] w fun e w' => e = .returned (.tuple #[]) ∧ (∀ j, j < l.length → w'.cell? ⟨g, j, none⟩ = some (.int .u8 (l.reverse[j]?.getD 0))) ∧ (∀ k w0, k ≤ g → Below k w0 w → Below k w0 w') := by
  have h0 : Holds (Value.int .u8) w g 0 l.toArray := fun j hj => by
    have hj' : j < l.length := by simpa using hj
    rw [Nat.zero_add]
    refine ⟨?_, hf j⟩
    rw [hc j hj', getElem!_pos _ j hj, List.getElem?_eq_getElem hj']
    simp
  have h := AnyE.slices_Reverse Tryz.laysRev (Value.int .u8) (fun _ => rfl) g 0 cap l w h0 hl
  refine (show Calls Tryz.prog 156 #[.slice (some ⟨g, 0, none⟩) l.length cap] w _ from h).mono ?_
  rintro e w' ⟨rfl, n, rfl⟩
  refine ⟨rfl, fun j hj => ?_, fun k w0 hk hb => ⟨hb.os, hb.tape, hb.output, by simpa [Sort.ahead] using hb.size, fun i hi => ?_⟩⟩
  · have hj' : j < l.reverse.toArray.size := by simpa using hj
    have h1 := cell?_putRow (Value.int .u8) (Sort.ahead w n) g 0 l.toArray l.reverse.toArray h0 (by simp) j hj'
    rw [Nat.zero_add] at h1
    rw [h1, getElem!_pos _ j hj', List.getElem?_eq_getElem (by simpa using hj)]
    simp
  · rw [← hb.block i hi]
    simp only [putRow, mapBlock, Sort.ahead, Array.getElem?_modify]
    rw [if_neg (by omega)]
theorem revn_c (a : Option Addr) (cap : Nat) (w : World) : Calls Tryz.prog 156 #[.slice a 0 cap] w fun e w' => e = .returned (.tuple #[]) ∧ w' = w :=
  AnyE.slices_Reverse_empty Tryz.laysRev a cap w

theorem own_some' {w : World} {B : Nat} {t : TypeId} {v : Value} {n : Nat} {xs : List Value} (h : w.ownsRow B t 1 v n xs) (hn : 0 < n) : ∃ g cap, v = .slice (some ⟨g, 0, none⟩) n cap := by
  rcases h.2 with ⟨_, h0⟩ | ⟨g, cap, cur, rfl, _⟩
  · omega
  · exact ⟨g, cap, rfl⟩

/-- A call returns new digits ds. -/
def DsP (ds : List Int) (w : World) (e : Ending) (w' : World) : Prop := ∃ v, e = .returned v ∧ Sl .u8 w' v ds ∧ FromB w.heap.size v ∧ Below w.heap.size w w'

set_option maxRecDepth 100000 in
set_option maxHeartbeats 2000000 in
theorem digitsOf_c (n : Nat) (w : World) (hn : n < 10 ^ 18) : Calls Tryz.prog 89 #[.int .i64 (n : Int)] w (DsP (dg 10 n).reverse w) := by
  have HLEN : Hid ((dg 10 n).length ≤ 18) := (dg_length_le (by decide) n 18).2 hn
  obtain ⟨i0, hi, hz0, hz1, hz2⟩ := info_parts info_byte
  have HI := Lib.hid (And.intro hi (And.intro hz0 (And.intro hz1 hz2)))
  clear hi hz0 hz1 hz2
  have hn2 : n ≤ 9223372036854775807 := by omega
  clear hn
  go_enter Tryz.func89, Tryz.ntmps89
  go_wp2_with fail
  go_loopg [0, 3] n (fun g nv lv wr => ∃ (l : List Int), nv = .int .i64 (g : Int) ∧ g ≤ n ∧ Hid (wr.ownsRow w.heap.size 5 1 lv l.length (l.map (Value.int .u8))) ∧ Hid (l ++ dg 10 g = dg 10 n) ∧ Hid (Below w.heap.size w wr))
  case atStart => exact ⟨[], rfl, Nat.le_refl _, World.ownsRow_nil _ _ _ _, rfl, Below.refl _ _⟩
  case round =>
    obtain ⟨l, rfl, hgn, HOW, HL, HB⟩ := hrel
    have hll : l.length ≤ 18 := by have h1 := congrArg List.length HL.out; rw [List.length_append] at h1; have := HLEN.out; omega
    have hsz := HB.out.size
    by_cases hg0 : gk = 0
    · subst hg0
      have hl := HL.out
      rw [dg_zero, List.append_nil] at hl
      subst hl
      have HFR := Lib.hid (own_from HOW.out)
      by_cases hp : (dg 10 n).length = 0
      · obtain ⟨A, c, rfl⟩ : ∃ A c, u3 = .slice A 0 c := by
          rcases HOW.out.2 with ⟨h, _⟩ | ⟨g, cap, cur, h, _⟩
          · exact ⟨none, 0, h⟩
          · exact ⟨_, cap, by rw [h, hp]⟩
        have hcap : c ≤ 9223372036854775807 := by
          obtain ⟨A', c', e, h1, h2, -, -⟩ := own_row HOW.out
          have e2 := (Value.slice.inj e).2.2
          unfold maxLen at h2; omega
        have HNIL : Hid (dg 10 n = []) := List.eq_nil_of_length_eq_zero hp
        clear hp HL HLEN HOW
        go_wp2_with (go_at_call 156; refine (revn_c _ _ _).mono ?_; rintro e w' ⟨rfl, rfl⟩)
        go_ret
        rw [HNIL.out]
        exact ⟨_, rfl, ⟨A, c, rfl, Nat.zero_le _, hcap, Row.nil⟩, HFR.out, HB.out⟩
      · obtain ⟨g, cap, rfl⟩ := own_some' HOW.out (by omega)
        have hcs : Hid (∀ j, j < (dg 10 n).length → wr.cell? ⟨g, j, none⟩ = some (.int .u8 ((dg 10 n)[j]?.getD 0))) := fun j hj => by
          obtain ⟨A', c', e, -, -, hr, -⟩ := own_row HOW.out
          cases e
          obtain ⟨a, e, hc⟩ := hr j hj
          cases e
          rw [add_lit, Nat.zero_add] at hc
          exact hc
        have hcap : (dg 10 n).length ≤ cap ∧ cap ≤ 9223372036854775807 := by
          obtain ⟨A', c', e, h1, h2, -, -⟩ := own_row HOW.out
          cases e; unfold maxLen at h2; exact ⟨h1, by omega⟩
        have hgb := (HOW.out.lt g rfl).1
        have hfz := Lib.hid (fun j => HOW.out.frozenAt j)
        have hcap1 := hcap.1; have hcap2 := hcap.2
        clear hp HL hcap
        go_wp2_with (go_at_call 156; refine (revb_c g cap (dg 10 n) _ hcs.out hfz.out (by omega)).mono ?_; rintro e w2 ⟨rfl, hc2, hb2⟩; have HC2 := Lib.hid hc2; have HB2 := Lib.hid (hb2 _ _ hgb HB.out); clear hc2 hb2)
        go_ret
        refine ⟨_, rfl, ⟨some ⟨g, 0, none⟩, cap, by rw [List.length_reverse]; rfl, by rw [List.length_reverse]; exact hcap1, hcap2, fun j hj => ⟨_, rfl, ?_⟩⟩, HFR.out, HB2.out⟩
        rw [add_lit, Nat.zero_add]
        exact HC2.out j (by simpa using hj)
    · obtain ⟨d, hd⟩ : ∃ d, gk % 10 = d := ⟨_, rfl⟩
      have hd9 : d < 10 := by omega
      have HDG : Hid (dg 10 gk = (d : Int) :: dg 10 (gk / 10)) := by show _ = _; rw [dg_pos (by decide) (by omega), ← hd]
      have T : (gk : Int) % 10 = (d : Int) := by omega
      have hwr : IntKind.u8.wrap (d : Int) = (d : Int) := by rw [show IntKind.u8.wrap (d : Int) = (d : Int) % 256 from rfl]; omega
      have hgp : (0 : Int) < (gk : Int) := by omega
      have hgm : (gk : Int) ≤ 9223372036854775807 := by omega
      clear hd
      go_wp2_with (at_builtin; refine wpList_append_own _ rfl _ _ 93 rfl w.heap.size 5 i0 (.int .u8 0) 1 1 Tryz.underlying93 HI.out.1 HI.out.2.1 HI.out.2.2.1 HI.out.2.2.2 rfl (by decide) _ _ _ rfl (HOW.out.alloc _) ⟨wr.heap.size, 0, none⟩ 1 1 [.int .u8 (d : Int)] rfl rfl (cell_one_new _ _ _) (by simp [Value.oneCell']) (by unfold maxLen; omega) (by omega) (by simp; omega) ?_; intro v' w1 hown1 hgrow1 _; have HO1 := Lib.hid hown1; have HG1 := Lib.hid hgrow1; clear hown1 hgrow1)
      go_roundg (gk / 10)
      case measure => omega
      case rel =>
        refine ⟨l ++ [(d : Int)], by go_num, by omega, ?_, ?_, ?_⟩
        · have h1 := HO1.out
          rw [List.map_append, List.length_append]; exact h1
        · show _ = _
          rw [List.append_assoc, List.singleton_append, ← HL.out, HDG.out]
        · exact (HB.out.alloc hsz _).grown HG1.out (by simp; omega) ((own_from HOW.out).mono (by omega))

/-- What the callers of near give: whether some digit is not 0. -/
theorem nearf_c (x : Int) (w : World) : Calls Tryz.prog 158 #[.int .u8 x] w fun e w' => e = .returned (.bool (decide (0 < x))) ∧ w = w' := by
  go_enter Tryz.func158, Tryz.ntmps158
  go_wp2
  go_ret
  exact ⟨rfl, rfl⟩
theorem drop_take {l : List Int} {k : Nat} (h : k < l.length) : l.take (k + 1) = l.take k ++ [l[k]?.getD 0] := by
  rw [List.take_add_one, List.getElem?_eq_getElem h]; rfl

set_option maxRecDepth 100000 in
set_option maxHeartbeats 1000000 in
theorem indexf_c (A : Option Addr) (c : Nat) (l : List Int) (w : World) (hr : Row .u8 w A l) (hl : l.length ≤ 9223372036854775807) :
    Calls Tryz.prog 203 #[.slice A l.length c, .func (.func 158) #[] #[]] w fun e w' => (∃ i : Int, e = .returned (.int .i64 i) ∧ (0 ≤ i ↔ ∃ x ∈ l, 0 < x)) ∧ w = w' := by
  have HR := Lib.hid hr
  clear hr
  go_enter Tryz.func203, Tryz.ntmps203
  go_wp2_with fail
  go_loopg [8] l.length (fun g iv wr => ∃ k : Nat, iv = .int .i64 (k : Int) ∧ k + g = l.length ∧ Hid (∀ x ∈ l.take k, ¬ 0 < x) ∧ wr = w)
  case atStart => exact ⟨0, rfl, by omega, fun x hx => by simp at hx, rfl⟩
  case round =>
    obtain ⟨k, rfl, hk, HZ, rfl⟩ := hrel
    by_cases hlt : k < l.length
    · obtain ⟨a, rfl, hcell⟩ := HR.out k hlt
      have HT := Lib.hid (drop_take hlt)
      have HM : Hid (l[k]?.getD 0 ∈ l) := by show _ ∈ _; rw [List.getElem?_eq_getElem hlt]; exact List.getElem_mem hlt
      obtain ⟨x, hx⟩ : ∃ x, l[k]?.getD 0 = x := ⟨_, rfl⟩
      rw [hx] at hcell HT HM
      have HK := Lib.hid hk
      clear hx hk
      by_cases hx0 : 0 < x
      · have hb : decide (0 < x) = true := decide_eq_true hx0
        go_wp2_with (go_at_call 158; refine (nearf_c x _).mono ?_; rintro e w' ⟨he, rfl⟩; rw [hb] at he; subst he)
        go_ret
        exact ⟨⟨_, rfl, fun _ => ⟨x, HM.out, hx0⟩, fun _ => by omega⟩, rfl⟩
      · have hb : decide (0 < x) = false := decide_eq_false hx0
        go_wp2_with (go_at_call 158; refine (nearf_c x _).mono ?_; rintro e w' ⟨he, rfl⟩; rw [hb] at he; subst he)
        go_roundg (gk - 1)
        case measure => have := HK.out; omega
        case rel =>
          refine ⟨k + 1, by go_num, by have := HK.out; omega, fun y hy => ?_, rfl⟩
          rw [HT.out] at hy
          rcases List.mem_append.1 hy with hy | hy
          · exact HZ.out y hy
          · rw [List.mem_singleton.1 hy]; exact hx0
    · have HN : Hid (¬ ∃ x ∈ l, 0 < x) := by
        rintro ⟨x, hx, h0⟩
        exact HZ.out x (by rw [List.take_of_length_le (by omega)]; exact hx) h0
      go_wp2_with fail
      go_ret
      exact ⟨⟨_, rfl, fun h => by omega, fun h => absurd h HN.out⟩, rfl⟩

theorem containsf_c (A : Option Addr) (c : Nat) (l : List Int) (b : Bool) (w : World) (hr : Row .u8 w A l) (hl : l.length ≤ 9223372036854775807) (hb : b = true ↔ ∃ x ∈ l, 0 < x) :
    Calls Tryz.prog 157 #[.slice A l.length c, .func (.func 158) #[] #[]] w fun e w' => e = .returned (.bool b) ∧ w = w' := by
  have HR := Lib.hid hr; have HL := Lib.hid hl; have HBB := Lib.hid hb
  clear hr hl hb
  go_enter Tryz.func157, Tryz.ntmps157
  go_wp2_with (go_at_call 203; refine (indexf_c A c l _ HR.out HL.out).mono ?_; rintro e w' ⟨⟨i, rfl, hi⟩, rfl⟩; have HI := Lib.hid hi; clear hi)
  go_ret
  refine ⟨?_, rfl⟩
  rw [show b = decide (0 ≤ i) from by rw [Bool.eq_iff_iff, HBB.out, decide_eq_true_iff]; exact HI.out.symm]
  rfl

end Go.Proofs.YtekbfommnmikbaaGreatDoor
