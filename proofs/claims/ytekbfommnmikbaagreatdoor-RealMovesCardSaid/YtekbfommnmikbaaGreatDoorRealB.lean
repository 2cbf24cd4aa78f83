/- Package real: near, put, copies of digits. -/
import Derived.Test.YtekbfommnmikbaaGreatDoorRealA
namespace Go.Proofs.YtekbfommnmikbaaGreatDoor
set_option linter.unusedVariables false
set_option linter.unusedSimpArgs false
open Go.RowKit Go.Shelf Go.Proofs Go.Sort

theorem add_zero (a : Addr) : a.add 0 = a := rfl
theorem add_one (a : Addr) (j : Nat) : (⟨a.block, a.off + 1, none⟩ : Addr).add j = a.add (j + 1) := by
  unfold Addr.add
  rw [if_neg (show ¬ j + 1 = 0 by omega)]
  split
  · rename_i h; subst h; rfl
  · simp; omega
theorem row_tail {k : IntKind} {w : World} {a : Addr} {d : Int} {t : List Int} (h : Row k w (some a) (d :: t)) : Row k w (some ⟨a.block, a.off + 1, none⟩) t := fun j hj => by
  obtain ⟨a', e, hc⟩ := h (j + 1) (by simpa using hj)
  cases e
  exact ⟨_, rfl, by rw [add_one]; simpa using hc⟩

set_option maxRecDepth 100000 in
set_option maxHeartbeats 1000000 in
theorem near_c (A : Option Addr) (c : Nat) (l : List Int) (q : Nat) (w : World) (hr : Row .u8 w A l) (hc : l.length ≤ c) (hm : c ≤ 9223372036854775807) (hi : InR 10 l) (hq : q < 10 ^ 13) :
    Calls Tryz.prog 90 #[.slice A l.length c, .int .i64 (q : Int)] w fun e w' => e = .returned (.int .i64 (nearV l q : Int)) ∧ w = w' := by
  cases l with
  | nil =>
    rw [near_nil]
    clear hr hi
    go_enter Tryz.func90, Tryz.ntmps90
    go_wp2_with fail
    go_ret
    exact ⟨rfl, rfl⟩
  | cons d t =>
    obtain ⟨a, rfl, hcell⟩ := hr 0 (by simp)
    have hcell : w.cell? a = some (.int .u8 d) := by have h0 : w.cell? (a.add 0) = some (.int .u8 d) := hcell; rwa [add_zero] at h0
    have hne : ((t.length : Int) + 1 == 0) = false := by rw [beq_eq_false_iff_ne]; omega
    rw [List.length_cons] at *
    by_cases hd : d < 5
    · rw [near_less hi hd]
      clear hr hi
      go_enter Tryz.func90, Tryz.ntmps90
      go_wp2_with fail
      go_ret
      exact ⟨rfl, rfl⟩
    · have HDV := Lib.hid (near_more hi)
      have HHF := Lib.hid (fun hv : vd t = 0 => near_half hv q)
      obtain ⟨b, hb⟩ : ∃ b, decide (0 < vd t) = b := ⟨_, rfl⟩
      have HCB : Hid (b = true ↔ ∃ x ∈ t, 0 < x) := by show _ ↔ _; rw [← hb, decide_eq_true_iff]; exact vd_some hi.tail
      have HVN := Lib.hid (vd_nonneg hi.tail)
      have HB := Lib.hid hb
      have HD := Lib.hid hd
      have hd5 : ¬ (d < 5) := hd
      have HRT := Lib.hid (row_tail hr)
      have hm0 : (0 : Int) ≤ (q : Int) := by omega
      have hm1 : (q : Int) ≤ 9223372036854775807 := by omega
      have hq2 := Nat.mod_two_eq_zero_or_one q
      obtain ⟨r, hr2⟩ : ∃ r, q % 2 = r := ⟨_, rfl⟩
      rw [hr2] at hq2
      have T : (q : Int) % 2 = (r : Int) := by omega
      have HR2 := Lib.hid hr2
      obtain ⟨L, hL⟩ : ∃ L, t.length = L := ⟨_, rfl⟩
      rw [hL] at hc hne ⊢
      have HL := Lib.hid hL
      have HC2 : Hid (∀ c', Calls Tryz.prog 157 #[.slice (some ⟨a.block, a.off + 1, none⟩) L c', .func (.func 158) #[] #[]] w fun e w' => e = .returned (.bool b) ∧ w = w') := fun c' => by
        rw [← HL.out]; exact containsf_c _ c' t b w HRT.out (by rw [HL.out]; omega) HCB.out
      have HC3 : Hid (c = 1 → Calls Tryz.prog 157 #[.slice (some a) L 0, .func (.func 158) #[] #[]] w fun e w' => e = .returned (.bool b) ∧ w = w') := fun h1 => by
        obtain rfl : t = [] := List.eq_nil_of_length_eq_zero (by rw [HL.out]; omega)
        rw [← HL.out]
        exact containsf_c _ 0 [] b w Row.nil (by simp) HCB.out
      have HEND : Hid (nearV (d :: t) q = if d = 5 ∧ b = false then (if r = 1 then 1 else 0) else 1) := by
        show _ = _
        by_cases h5 : d = 5 ∧ b = false
        · rw [if_pos h5]
          have hv : vd t = 0 := by have := h5.2; rw [← hb, decide_eq_false_iff_not] at this; have := HVN.out; omega
          rw [h5.1, near_half hv, hr2]
        · rw [if_neg h5]
          refine near_more hi ?_ q
          cases b with
          | false => exact .inl (by have h6 : ¬ d = 5 := fun e => h5 ⟨e, rfl⟩; omega)
          | true => exact .inr ⟨by omega, by simpa using hb⟩
      rw [HEND.out]
      clear hr hi hb hr2 hL hd HEND
      by_cases h5 : d = 5
      · subst h5
        have h56 : decide ((5 : Int) < 5) = false := by decide
        cases b
        · rcases hq2 with rfl | rfl
          · go_enter Tryz.func90, Tryz.ntmps90
            go_wp2_with (first
              | (go_at_call 157; (with_reducible refine (HC2.out _).mono ?_); rintro e w' ⟨rfl, rfl⟩)
              | (go_at_call 157; (with_reducible refine (HC3.out ?_).mono ?_); assumption; rintro e w' ⟨rfl, rfl⟩))
            all_goals
              go_ret
              exact ⟨rfl, rfl⟩
          · go_enter Tryz.func90, Tryz.ntmps90
            go_wp2_with (first
              | (go_at_call 157; (with_reducible refine (HC2.out _).mono ?_); rintro e w' ⟨rfl, rfl⟩)
              | (go_at_call 157; (with_reducible refine (HC3.out ?_).mono ?_); assumption; rintro e w' ⟨rfl, rfl⟩))
            all_goals
              go_ret
              exact ⟨rfl, rfl⟩
        · go_enter Tryz.func90, Tryz.ntmps90
          go_wp2_with (first
            | (go_at_call 157; (with_reducible refine (HC2.out _).mono ?_); rintro e w' ⟨rfl, rfl⟩)
            | (go_at_call 157; (with_reducible refine (HC3.out ?_).mono ?_); assumption; rintro e w' ⟨rfl, rfl⟩))
          all_goals
            go_ret
            exact ⟨rfl, rfl⟩
      · have h6 : 5 < d := by have := HD.out; omega
        rw [if_neg (fun h => h5 h.1)]
        go_enter Tryz.func90, Tryz.ntmps90
        go_wp2_with (first
          | (go_at_call 157; (with_reducible refine (HC2.out _).mono ?_); rintro e w' ⟨rfl, rfl⟩)
          | (go_at_call 157; (with_reducible refine (HC3.out ?_).mono ?_); assumption; rintro e w' ⟨rfl, rfl⟩))
        all_goals
          go_ret
          exact ⟨rfl, rfl⟩

/-- A Man with its sign. -/
def sgm (s : Bool) (m : Int) : Int := if s then -m else m

set_option maxRecDepth 100000 in
set_option maxHeartbeats 1000000 in
theorem put_c (s : Bool) (m x : Int) (w : World) (h0 : 0 ≤ m) (h1 : m ≤ 9223372036854775807) :
    Calls Tryz.prog 202 #[.agg #[.bool s], .int .i64 m, .int .i64 x] w fun e w' => e = .returned (.agg #[.int .i64 (sgm s m), .int .i64 x]) ∧ Below w.heap.size w w' := by
  cases s
  · go_enter Tryz.func202, Tryz.ntmps202
    go_wp2_with fail
    refine bodyPost_ret (v := .agg #[.int .i64 m, .int .i64 x]) (by simp [results, Tryz.results202, go_sem]) rfl ?_
    exact ⟨rfl, (by repeat (first | exact Below.refl _ _ | exact HB.out | (refine Below.alloc ?_ (by first | (simp; done) | (simp; omega)) _) | (refine Below.setCell ?_ (by first | (simp; done) | (simp; omega)) _) | refine Below.drew ?_ | refine below_drewN ?_ _))⟩
  · go_enter Tryz.func202, Tryz.ntmps202
    go_wp2_with fail
    refine bodyPost_ret (v := .agg #[.int .i64 (-m), .int .i64 x]) (by simp [results, Tryz.results202, go_sem]) rfl ?_
    exact ⟨rfl, (by repeat (first | exact Below.refl _ _ | exact HB.out | (refine Below.alloc ?_ (by first | (simp; done) | (simp; omega)) _) | (refine Below.setCell ?_ (by first | (simp; done) | (simp; omega)) _) | refine Below.drew ?_ | refine below_drewN ?_ _))⟩

/-- Digits copied. -/
theorem bclone_c (A : Option Addr) (c : Nat) (xs : List Int) (w : World) (hr : Row .u8 w A xs) (hb : xs.length ≤ 1000000000) :
    Calls Tryz.prog 201 #[.slice A xs.length c] w fun e w' => ∃ v, e = .returned v ∧ w'.ownsRow w.heap.size 5 1 v xs.length (xs.map (Value.int .u8)) ∧ Below w.heap.size w w' := by
  obtain ⟨i0, hi, hz0, hz1, hz2⟩ := info_parts info_byte
  have q22 : ∀ (w : World) (a : Option Addr) (n c n' c' : Nat), (binOp .eql 93 (.slice a n c) (.slice none n' c')).run Tryz.prog w = .ok (.bool a.isNone) w := fun w a n c n' c' => Lib.run_eql_slice_nil w _ _ a n c n' c' Tryz.underlying93
  have HR := Lib.hid hr
  clear hr
  have HI := Lib.hid (And.intro hi (And.intro hz0 (And.intro hz1 hz2)))
  clear hi hz0 hz1 hz2
  cases A with
  | none =>
    have hx : xs = [] := by
      cases xs with
      | nil => rfl
      | cons x xs => obtain ⟨a, e, _⟩ := HR.out 0 (by simp); cases e
    subst hx
    go_enter Tryz.func201, Tryz.ntmps201
    go_wp2
    go_ret
    exact ⟨_, rfl, World.ownsRow_nil _ _ _ _, Below.refl _ _⟩
  | some a =>
    go_enter Tryz.func201, Tryz.ntmps201
    go_wp2_with (at_builtin; refine wpList_append_own _ rfl _ _ 93 rfl w.heap.size 5 i0 (.int .u8 0) 1 1 Tryz.underlying93 HI.out.1 HI.out.2.1 HI.out.2.2.1 HI.out.2.2.2 rfl (by decide) _ _ _ rfl (World.ownsRow_made w #[] 0 (Nat.le_refl _) (Nat.zero_le _) rfl) a xs.length c (xs.map (Value.int .u8)) rfl (by simp) ?qc2 ?qc3 ?qc4 ?qc5 ?qc6 ?_)
    case qc2 =>
      intro j u hj
      have hjn : j < xs.length := by
        have := (List.getElem?_eq_some_iff.1 hj).1
        simpa using this
      obtain ⟨a', e, hc⟩ := (HR.out.alloc (.cells #[] 5)) j hjn
      cases e
      rw [hc]
      rw [List.getElem?_map, List.getElem?_eq_getElem hjn] at hj
      rw [List.getElem?_eq_getElem hjn]
      exact hj
    case qc3 => intro u hu; obtain ⟨x, _, rfl⟩ := List.mem_map.1 hu; rfl
    case qc4 => unfold maxLen; omega
    case qc5 => omega
    case qc6 => simp
    intro v' w1 hown hgrow hnil
    go_wp2
    go_ret
    refine ⟨v', rfl, by simpa using hown, ?_⟩
    exact ((Below.refl _ _).alloc (Nat.le_refl _) _).grown hgrow (by simp) (fun k hk => by cases hk; exact Nat.le_refl _)
end Go.Proofs.YtekbfommnmikbaaGreatDoor
