/- The exported functions of one integer: Neg, Abs, Sign. -/
import Derived.Test.YtbjgpbdkofadiaaGreatDoorWithInt
namespace Go.Proofs.YtbjgpbdkofadiaaGreatDoor
set_option linter.unusedVariables false
set_option linter.unusedSimpArgs false
open Go.RowKit Go.Shelf Go.Proofs

/-- What text makes of an integer. -/
def textOut (x : Int) : Out := if x.natAbs < 10 ^ 200 then .ok (.string ⟨(Lib.itoa x).toArray⟩) else .err 3
theorem textOut_end (x : Int) : (textOut x).end_ = textEnd x := by
  unfold textOut textEnd
  split <;> rfl

theorem len23 {n : Nat} (h : n < 10 ^ 200) : (dg 1000000000 n).length ≤ 23 := by
  refine (dg_length_le (by decide) _ _).2 (Nat.lt_of_lt_of_le h ?_)
  rw [show (1000000000 : Nat) = 10 ^ 9 from rfl, ← Nat.pow_mul]
  exact Nat.pow_le_pow_right (by decide) (by decide)

theorem text_out (v1 : Value) (x : Int) (w : World) (h1 : Wh w v1 x) (ht : Tabs w) (hl : (dg 1000000000 x.natAbs).length ≤ 1000000) : Calls Tryz.prog 58 #[v1] w fun e w' => e = (textOut x).end_ ∧ Below w.heap.size w w' := by
  rw [textOut_end]; exact text_c v1 x w h1 ht hl

/-- The first whole of a list. -/
theorem Whs.first {w : World} {v : Value} {x : Int} {zs : List Int} (h : Whs w v (x :: zs)) : ∃ a c p, v = .slice (some ⟨a, 0, none⟩) (zs.length + 1) c ∧ w.cell? ⟨a, 0, none⟩ = some (.bool (decide (x < 0))) ∧ w.cell? ⟨a, 1, none⟩ = some p ∧ Dg 1000000000 w p x.natAbs := by
  obtain ⟨A, c, e, h⟩ := h
  obtain ⟨a, p, rfl, h1, h2, h3⟩ := h 0 (by simp)
  exact ⟨a, c, p, e, h1, h2, h3⟩

set_option maxHeartbeats 1000000 in
theorem neg1_c (lv : Value) (x : Int) (w : World) (h : Whs w lv [x]) (ht : Tabs w) (hx : x.natAbs < 10 ^ 200) :
    Calls Tryz.prog 93 #[lv] w fun e w' => e = (textOut (-x)).end_ ∧ Below w.heap.size w w' := by
  obtain ⟨a, c, p, rfl, c0, c1, hd⟩ := h.first
  have HT := Lib.hid ht
  have hw : Wh w (.agg #[.bool (decide (x < 0)), p]) x := ⟨p, rfl, hd⟩
  have HW := Lib.hid hw
  obtain ⟨A6, n6, c6, rfl⟩ := hd.form
  have HL : Hid ((dg 1000000000 (-x).natAbs).length ≤ 1000000) := by show _ ≤ _; rw [Int.natAbs_neg]; exact Nat.le_trans (len23 hx) (by decide)
  generalize hb : decide (x < 0) = bx at *
  clear h ht hw hd hb hx
  have hout : ∃ o, textOut (-x) = o := ⟨_, rfl⟩
  obtain ⟨o, ho⟩ := hout
  have HO := Lib.hid ho
  rw [ho]
  clear ho
  cases o with
  | ok r =>
    go_enter Tryz.func93, Tryz.ntmps93
    go_wp2_with (first
      | (go_at_call 94; refine (negative_c _ x _ HW.out).mono ?_; rintro e W2 ⟨u, rfl, hu, hbz⟩; have HU := Lib.hid hu; have HB := Lib.hid hbz; clear hu hbz)
      | (go_at_call 58; refine (text_out _ (-x) _ HU.out (HT.out.below HB.out) HL.out).mono ?_; rw [HO.out]; rintro e W3 ⟨he, hbz⟩; have he2 : e = .returned r := he; subst he2; have HB2 := Lib.hid (below_then' HB.out hbz); clear he hbz))
    go_ret
    exact ⟨rfl, HB2.out⟩
  | err k =>
    go_enter Tryz.func93, Tryz.ntmps93
    go_wp2_with (first
      | (go_at_call 94; refine (negative_c _ x _ HW.out).mono ?_; rintro e W2 ⟨u, rfl, hu, hbz⟩; have HU := Lib.hid hu; have HB := Lib.hid hbz; clear hu hbz)
      | (go_at_call 58; refine (text_out _ (-x) _ HU.out (HT.out.below HB.out) HL.out).mono ?_; rw [HO.out]; rintro e W3 ⟨he, hbz⟩; have he2 : e = .panicked (failChain k) := he; subst he2; have HB2 := Lib.hid (below_then' HB.out hbz); clear he hbz))
    exact ⟨rfl, rfl, HB2.out⟩


/-- What a function of one string returns. -/
def Un (S : ByteArray) (f : Int → Out) (z : Value) (w : World) (e : Ending) (w' : World) : Prop :=
  ((∃ x, NumL S.data.toList x ∧ e = .returned ((f x).res z)) ∨ ((¬ ∃ x, NumL S.data.toList x) ∧ e = .returned (.tuple #[z, .int .i64 1]))) ∧ Below w.heap.size w w'

theorem Out.res_form (o : Out) (z : Value) : ∃ a b, o.res z = .tuple #[a, b] := by
  cases o
  · exact ⟨_, _, rfl⟩
  · exact ⟨_, _, rfl⟩

theorem with_one {S : ByteArray} {f : Int → Out} {z : Value} {w w1 : World} {e : Ending} {w' : World} (h : WithP [S] (fun zs => f (zs.headD 0)) z w1 e w') (hb : Below w.heap.size w w1) : ∃ a b, e = .returned (.tuple #[a, b]) ∧ Un S f z w (.returned (.tuple #[a, b])) w' := by
  obtain ⟨h, hb2⟩ := h
  have hbb := below_then' hb hb2
  rcases h with ⟨zs, ⟨hl, ha⟩, rfl⟩ | ⟨hn, rfl⟩
  · obtain ⟨a, b, e⟩ := Out.res_form (f (zs.headD 0)) z
    refine ⟨a, b, by rw [e], .inl ⟨zs.headD 0, ?_, by rw [e]⟩, hbb⟩
    have h0 := ha 0 (by simp)
    cases zs with
    | nil => simp at hl
    | cons y zs => simpa using h0
  · refine ⟨_, _, rfl, .inr ⟨?_, rfl⟩, hbb⟩
    rintro ⟨x, hx⟩
    exact hn ⟨[x], rfl, fun j hj => by
      have : j = 0 := by simpa using hj
      subst this
      simpa using hx⟩

/-- One string in a slice of its own. -/
theorem strs_one (w : World) (S : ByteArray) (t : TypeId) : Strs (w.alloc (.cells #[.string S] t)) (.slice (some ⟨w.heap.size, 0, none⟩) 1 1) [S] := by
  refine ⟨_, _, rfl, fun j hj => ?_⟩
  have : j = 0 := by simpa using hj
  subst this
  exact ⟨_, rfl, by rw [add_lit]; exact new_cell _ _ _ _⟩

theorem one_zs {S : ByteArray} {zs : List Int} (h : AllNum [S] zs) : ∃ x, zs = [x] ∧ NumL S.data.toList x := by
  obtain ⟨hl, ha⟩ := h
  match zs, hl with
  | [x], _ => exact ⟨x, rfl, by simpa using ha 0 (by simp)⟩

set_option maxHeartbeats 1000000 in
theorem neg_c (S : ByteArray) (w : World) (ht : Tabs w) : Calls Tryz.prog 43 #[.string S] w (Un S (fun x => textOut (-x)) (.string ⟨#[]⟩) w) := by
  have HT := Lib.hid ht
  clear ht
  go_enter Tryz.func43, Tryz.ntmps43
  go_wp2_with (go_at_call 55; refine (withStr_c 93 #[] (enters_of Tryz.func93 (by kernel_rfl) rfl) _ [S] (fun zs => textOut (-(zs.headD 0))) _ (strs_one w S _) (by simp) ?hf).mono ?_)
  case hf =>
    intro zs hz W lv hb hw
    obtain ⟨x, rfl, hx⟩ := one_zs hz
    exact neg1_c lv x W hw (HT.out.below (Below.trans ((Below.refl w.heap.size w).alloc (Nat.le_refl _) _) (hb.mono (by simp)))) hx.2
  rintro e w' h
  obtain ⟨a, b, rfl, hr⟩ := with_one (f := fun x => textOut (-x)) h ((Below.refl w.heap.size w).alloc (Nat.le_refl _) _)
  have HR := Lib.hid hr
  clear h hr
  go_wp2
  go_ret2
  exact HR.out

set_option maxHeartbeats 1000000 in
theorem abs1_c (lv : Value) (x : Int) (w : World) (h : Whs w lv [x]) (ht : Tabs w) (hx : x.natAbs < 10 ^ 200) :
    Calls Tryz.prog 101 #[lv] w fun e w' => e = (textOut (x.natAbs : Int)).end_ ∧ Below w.heap.size w w' := by
  obtain ⟨a, c, p, rfl, c0, c1, hd⟩ := h.first
  have HT := Lib.hid ht
  have hw : Wh w (.agg #[.bool (decide (x < 0)), p]) x := ⟨p, rfl, hd⟩
  have HW := Lib.hid hw
  have HDD := Lib.hid hd
  obtain ⟨A6, n6, c6, rfl⟩ := hd.form
  have HL : Hid ((dg 1000000000 (x.natAbs : Int).natAbs).length ≤ 1000000) := by show _ ≤ _; rw [Int.natAbs_natCast]; exact Nat.le_trans (len23 hx) (by decide)
  generalize hb : decide (x < 0) = bx at *
  clear h ht hw hd hb hx
  have hout : ∃ o, textOut (x.natAbs : Int) = o := ⟨_, rfl⟩
  obtain ⟨o, ho⟩ := hout
  have HO := Lib.hid ho
  rw [ho]
  clear ho
  cases o with
  | ok r =>
    go_enter Tryz.func101, Tryz.ntmps101
    go_wp2_with (first
      | (go_at_call 60; refine (made_c false _ x.natAbs _ HDD.out).mono ?_; rintro e W2 ⟨rfl, hbz⟩; have HU : Hid (Wh W2 (.agg #[.bool (false && decide (0 < x.natAbs)), .slice A6 n6 c6]) (x.natAbs : Int)) := ⟨_, by rw [decide_eq_false (by omega : ¬ (x.natAbs : Int) < 0)]; rfl, by rw [Int.natAbs_natCast]; exact HDD.out.below hbz⟩; have HB := Lib.hid hbz; clear hbz)
      | (go_at_call 58; refine (text_out _ (x.natAbs : Int) _ HU.out (HT.out.below HB.out) HL.out).mono ?_; rw [HO.out]; rintro e W3 ⟨he, hbz⟩; have he2 : e = .returned r := he; subst he2; have HB2 := Lib.hid (below_then' HB.out hbz); clear he hbz))
    go_ret
    exact ⟨rfl, HB2.out⟩
  | err k =>
    go_enter Tryz.func101, Tryz.ntmps101
    go_wp2_with (first
      | (go_at_call 60; refine (made_c false _ x.natAbs _ HDD.out).mono ?_; rintro e W2 ⟨rfl, hbz⟩; have HU : Hid (Wh W2 (.agg #[.bool (false && decide (0 < x.natAbs)), .slice A6 n6 c6]) (x.natAbs : Int)) := ⟨_, by rw [decide_eq_false (by omega : ¬ (x.natAbs : Int) < 0)]; rfl, by rw [Int.natAbs_natCast]; exact HDD.out.below hbz⟩; have HB := Lib.hid hbz; clear hbz)
      | (go_at_call 58; refine (text_out _ (x.natAbs : Int) _ HU.out (HT.out.below HB.out) HL.out).mono ?_; rw [HO.out]; rintro e W3 ⟨he, hbz⟩; have he2 : e = .panicked (failChain k) := he; subst he2; have HB2 := Lib.hid (below_then' HB.out hbz); clear he hbz))
    exact ⟨rfl, rfl, HB2.out⟩


set_option maxHeartbeats 1000000 in
theorem abs_c (S : ByteArray) (w : World) (ht : Tabs w) : Calls Tryz.prog 49 #[.string S] w (Un S (fun x => textOut (x.natAbs : Int)) (.string ⟨#[]⟩) w) := by
  have HT := Lib.hid ht
  clear ht
  go_enter Tryz.func49, Tryz.ntmps49
  go_wp2_with (go_at_call 55; refine (withStr_c 101 #[] (enters_of Tryz.func101 (by kernel_rfl) rfl) _ [S] (fun zs => textOut ((zs.headD 0).natAbs : Int)) _ (strs_one w S _) (by simp) ?hf).mono ?_)
  case hf =>
    intro zs hz W lv hb hw
    obtain ⟨x, rfl, hx⟩ := one_zs hz
    exact abs1_c lv x W hw (HT.out.below (Below.trans ((Below.refl w.heap.size w).alloc (Nat.le_refl _) _) (hb.mono (by simp)))) hx.2
  rintro e w' h
  obtain ⟨a, b, rfl, hr⟩ := with_one (f := fun x => textOut (x.natAbs : Int)) h ((Below.refl w.heap.size w).alloc (Nat.le_refl _) _)
  have HR := Lib.hid hr
  clear h hr
  go_wp2
  go_ret2
  exact HR.out

set_option maxHeartbeats 1000000 in
theorem sign1_c (lv : Value) (x : Int) (w : World) (h : Whs w lv [x]) (ht : Tabs w) (hx : x.natAbs < 10 ^ 200) :
    Calls Tryz.prog 100 #[lv] w fun e w' => e = (Out.ok (.int .i64 (sgn x))).end_ ∧ Below w.heap.size w w' := by
  obtain ⟨a, c, p, rfl, c0, c1, hd⟩ := h.first
  have hw : Wh w (.agg #[.bool (decide (x < 0)), p]) x := ⟨p, rfl, hd⟩
  have HW := Lib.hid hw
  obtain ⟨A6, n6, c6, rfl⟩ := hd.form
  have HL : Hid ((dg 1000000000 x.natAbs).length ≤ 1000000) := Nat.le_trans (len23 hx) (by decide)
  generalize hb : decide (x < 0) = bx at *
  clear h ht hw hd hb hx
  go_enter Tryz.func100, Tryz.ntmps100
  go_wp2_with (go_at_call 98; refine (signum_c _ x _ HW.out HL.out).mono ?_; rintro e W2 ⟨rfl, hbz⟩; have HB := Lib.hid hbz; clear hbz)
  go_ret
  exact ⟨rfl, HB.out⟩

set_option maxHeartbeats 1000000 in
theorem signx_c (S : ByteArray) (w : World) (ht : Tabs w) : Calls Tryz.prog 48 #[.string S] w (Un S (fun x => Out.ok (.int .i64 (sgn x))) (.int .i64 0) w) := by
  have HT := Lib.hid ht
  clear ht
  go_enter Tryz.func48, Tryz.ntmps48
  go_wp2_with (go_at_call 96; refine (withInt_c 100 #[] (enters_of Tryz.func100 (by kernel_rfl) rfl) _ [S] (fun zs => Out.ok (.int .i64 (sgn (zs.headD 0)))) _ (strs_one w S _) (by simp) ?hf).mono ?_)
  case hf =>
    intro zs hz W lv hb hw
    obtain ⟨x, rfl, hx⟩ := one_zs hz
    exact sign1_c lv x W hw (HT.out.below (Below.trans ((Below.refl w.heap.size w).alloc (Nat.le_refl _) _) (hb.mono (by simp)))) hx.2
  rintro e w' h
  obtain ⟨a, b, rfl, hr⟩ := with_one (f := fun x => Out.ok (.int .i64 (sgn x))) h ((Below.refl w.heap.size w).alloc (Nat.le_refl _) _)
  have HR := Lib.hid hr
  clear h hr
  go_wp2
  go_ret2
  exact HR.out

end Go.Proofs.YtbjgpbdkofadiaaGreatDoor
