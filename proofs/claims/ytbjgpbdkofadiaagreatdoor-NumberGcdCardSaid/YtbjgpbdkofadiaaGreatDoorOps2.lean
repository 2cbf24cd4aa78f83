/- The exported functions of two integers: Add, Mul, Sub, Cmp. -/
import Derived.Test.YtbjgpbdkofadiaaGreatDoorOps1
import Derived.RegionDies
namespace Go.Proofs.YtbjgpbdkofadiaaGreatDoor
set_option linter.unusedVariables false
set_option linter.unusedSimpArgs false
open Go.RowKit Go.Shelf Go.Proofs

/-- What a function of two strings returns. -/
def Bi (S T : ByteArray) (f : Int → Int → Out) (z : Value) (w : World) (e : Ending) (w' : World) : Prop :=
  ((∃ x y, NumL S.data.toList x ∧ NumL T.data.toList y ∧ e = .returned ((f x y).res z)) ∨ ((¬ ((∃ x, NumL S.data.toList x) ∧ ∃ y, NumL T.data.toList y)) ∧ e = .returned (.tuple #[z, .int .i64 1]))) ∧ Below w.heap.size w w'

theorem two_zs {S T : ByteArray} {zs : List Int} (h : AllNum [S, T] zs) : ∃ x y, zs = [x, y] ∧ NumL S.data.toList x ∧ NumL T.data.toList y := by
  obtain ⟨hl, ha⟩ := h
  match zs, hl with
  | [x, y], _ => exact ⟨x, y, rfl, by simpa using ha 0 (by simp), by simpa using ha 1 (by simp)⟩

theorem with_two {S T : ByteArray} {f : Int → Int → Out} {z : Value} {w w1 : World} {e : Ending} {w' : World} (h : WithP [S, T] (fun zs => f (zs.headD 0) (zs.getD 1 0)) z w1 e w') (hb : Below w.heap.size w w1) : ∃ a b, e = .returned (.tuple #[a, b]) ∧ Bi S T f z w (.returned (.tuple #[a, b])) w' := by
  obtain ⟨h, hb2⟩ := h
  have hbb := below_then' hb hb2
  rcases h with ⟨zs, hz, rfl⟩ | ⟨hn, rfl⟩
  · obtain ⟨x, y, rfl, hx, hy⟩ := two_zs hz
    obtain ⟨a, b, e⟩ := Out.res_form (f x y) z
    exact ⟨a, b, by simp [e], .inl ⟨x, y, hx, hy, by rw [e]⟩, hbb⟩
  · refine ⟨_, _, rfl, .inr ⟨?_, rfl⟩, hbb⟩
    rintro ⟨⟨x, hx⟩, y, hy⟩
    refine hn ⟨[x, y], rfl, fun j hj => ?_⟩
    match j, hj with
    | 0, _ => simpa using hx
    | 1, _ => simpa using hy

theorem strs_two (w : World) (S T : ByteArray) (t : TypeId) : Strs (w.alloc (.cells #[.string S, .string T] t)) (.slice (some ⟨w.heap.size, 0, none⟩) 2 2) [S, T] := by
  refine ⟨_, _, rfl, fun j hj => ?_⟩
  match j, hj with
  | 0, _ => exact ⟨_, rfl, by rw [add_lit]; exact new_cell _ _ _ _⟩
  | 1, _ => exact ⟨_, rfl, by rw [add_lit]; exact new_cell _ _ _ _⟩

/-- The two wholes of a list. -/
theorem Whs.two {w : World} {v : Value} {x y : Int} (h : Whs w v [x, y]) : ∃ a c p q, v = .slice (some ⟨a, 0, none⟩) 2 c ∧ w.cell? ⟨a, 0, none⟩ = some (.bool (decide (x < 0))) ∧ w.cell? ⟨a, 1, none⟩ = some p ∧ Dg 1000000000 w p x.natAbs
    ∧ w.cell? ⟨a, 2, none⟩ = some (.bool (decide (y < 0))) ∧ w.cell? ⟨a, 3, none⟩ = some q ∧ Dg 1000000000 w q y.natAbs := by
  obtain ⟨A, c, e, h⟩ := h
  obtain ⟨a, p, rfl, h1, h2, h3⟩ := h 0 (by simp)
  obtain ⟨a', q, e', h4, h5, h6⟩ := h 1 (by simp)
  cases e'
  exact ⟨a, c, p, q, e, h1, h2, h3, h4, h5, h6⟩

theorem len_add {m n : Nat} (hm : m < 10 ^ 200) (hn : n < 10 ^ 200) : (dg 1000000000 (m + n)).length ≤ 23 := by
  refine (dg_length_le (by decide) _ _).2 ?_
  rw [show (1000000000 : Nat) = 10 ^ 9 from rfl, ← Nat.pow_mul]
  have h1 : (10 : Nat) ^ 201 ≤ 10 ^ (9 * 23) := Nat.pow_le_pow_right (by decide) (by decide)
  have h2 : (10 : Nat) ^ 201 = 10 ^ 200 * 10 := Nat.pow_succ ..
  omega
theorem len_mul {m n : Nat} (hm : m < 10 ^ 200) (hn : n < 10 ^ 200) : (dg 1000000000 (m * n)).length ≤ 46 := by
  refine (dg_length_le (by decide) _ _).2 ?_
  have h1 := (dg_length_le (b := 1000000000) (by decide) m 23).1 (len23 hm)
  have h2 := (dg_length_le (b := 1000000000) (by decide) n 23).1 (len23 hn)
  rw [show 46 = 23 + 23 from rfl, Nat.pow_add]
  exact Nat.mul_lt_mul'' h1 h2

set_option maxHeartbeats 2000000 in
theorem add1_c (lv : Value) (x y : Int) (w : World) (h : Whs w lv [x, y]) (ht : Tabs w) (hx : x.natAbs < 10 ^ 200) (hy : y.natAbs < 10 ^ 200) :
    Calls Tryz.prog 91 #[lv] w fun e w' => e = (textOut (x + y)).end_ ∧ Below w.heap.size w w' := by
  obtain ⟨a, c, p, q, rfl, c0, c1, hp, c2, c3, hq⟩ := h.two
  have HT := Lib.hid ht
  have HX : Hid (Wh w.drew (.agg #[.bool (decide (x < 0)), p]) x) := ⟨p, rfl, hp.drew⟩
  have HY : Hid (Wh w.drew (.agg #[.bool (decide (y < 0)), q]) y) := ⟨q, rfl, hq.drew⟩
  obtain ⟨A6, n6, c6, rfl⟩ := hp.form
  obtain ⟨A7, n7, c7, rfl⟩ := hq.form
  have HLX : Hid ((dg 1000000000 x.natAbs).length ≤ 1000000) := Nat.le_trans (len23 hx) (by decide)
  have HLY : Hid ((dg 1000000000 y.natAbs).length ≤ 1000000) := Nat.le_trans (len23 hy) (by decide)
  have HL : Hid ((dg 1000000000 (x + y).natAbs).length ≤ 1000000) := Nat.le_trans (dg_length_mono (by decide) (Int.natAbs_add_le x y)) (Nat.le_trans (len_add hx hy) (by decide))
  generalize hbx : decide (x < 0) = bx at *
  generalize hby : decide (y < 0) = by_ at *
  clear h ht hp hq hbx hby hx hy
  obtain ⟨o, ho⟩ : ∃ o, textOut (x + y) = o := ⟨_, rfl⟩
  have HO := Lib.hid ho
  rw [ho]
  clear ho
  cases o with
  | ok r =>
    go_enter Tryz.func91, Tryz.ntmps91
    go_wp2_with fail
    go_region_with (first
      | (go_at_call 92; refine (add_c _ _ x y _ HX.out HY.out HLX.out HLY.out).mono ?_; rintro e W2 ⟨u, rfl, hu, hbz⟩; have HU := Lib.hid hu.wh; have HB := Lib.hid (below_then' (Below.refl w.heap.size w).drew hbz); clear hu hbz)
      | (go_at_call 58; refine (text_out _ (x + y) _ HU.out (HT.out.below HB.out) HL.out).mono ?_; rw [HO.out]; rintro e W3 ⟨he, hbz⟩; have he2 : e = .returned r := he; subst he2; have HB2 := Lib.hid (below_then' HB.out hbz); clear he hbz))
    all_goals
      go_wp2
      go_ret
      exact ⟨rfl, HB2.out⟩
  | err k =>
    go_enter Tryz.func91, Tryz.ntmps91
    go_wp2_with fail
    go_region_dies
    all_goals
      go_at_call 92
      refine (add_c _ _ x y _ HX.out HY.out HLX.out HLY.out).mono ?_
      rintro e W2 ⟨u, rfl, hu, hbz⟩
      have HU := Lib.hid hu.wh
      have HB := Lib.hid (below_then' (Below.refl w.heap.size w).drew hbz)
      clear hu hbz
      dsimp only
      apply_assumption
      refine wpAny_ready (rs := [7]) (by kernel_rfl) (by simp) ?_
      refine AllReady.cons rfl (fun K hK => ?_) AllReady.nil
      go_simp
      go_at_call 58
      refine (text_out _ (x + y) _ HU.out (HT.out.below HB.out) HL.out).mono ?_
      rw [HO.out]
      rintro e W3 ⟨he, hbz⟩
      have he2 : e = .panicked (failChain k) := he
      subst he2
      dsimp only
      first
        | exact ⟨rfl, rfl, below_then' HB.out hbz⟩
        | (apply_assumption; exact ⟨rfl, rfl, below_then' HB.out hbz⟩)

set_option maxHeartbeats 1000000 in
theorem numAdd_c (S T : ByteArray) (w : World) (ht : Tabs w) : Calls Tryz.prog 42 #[.string S, .string T] w (Bi S T (fun x y => textOut (x + y)) (.string ⟨#[]⟩) w) := by
  have HT := Lib.hid ht
  clear ht
  go_enter Tryz.func42, Tryz.ntmps42
  go_wp2_with (go_at_call 55; refine (withStr_c 91 #[] (enters_of Tryz.func91 (by kernel_rfl) rfl) _ [S, T] (fun zs => textOut (zs.headD 0 + zs.getD 1 0)) _ (strs_two w S T _) (by simp) ?hf).mono ?_)
  case hf =>
    intro zs hz W lv hb hw
    obtain ⟨x, y, rfl, hx, hy⟩ := two_zs hz
    exact add1_c lv x y W hw (HT.out.below (Below.trans ((Below.refl w.heap.size w).alloc (Nat.le_refl _) _) (hb.mono (by simp)))) hx.2 hy.2
  rintro e w' h
  obtain ⟨a, b, rfl, hr⟩ := with_two (f := fun x y => textOut (x + y)) h ((Below.refl w.heap.size w).alloc (Nat.le_refl _) _)
  have HR := Lib.hid hr
  clear h hr
  go_wp2
  go_ret2
  exact HR.out

set_option maxHeartbeats 2000000 in
theorem mul1_c (lv : Value) (x y : Int) (w : World) (h : Whs w lv [x, y]) (ht : Tabs w) (hx : x.natAbs < 10 ^ 200) (hy : y.natAbs < 10 ^ 200) :
    Calls Tryz.prog 56 #[lv] w fun e w' => e = (textOut (x * y)).end_ ∧ Below w.heap.size w w' := by
  obtain ⟨a, c, p, q, rfl, c0, c1, hp, c2, c3, hq⟩ := h.two
  have HT := Lib.hid ht
  have HX : Hid (Wh w.drew (.agg #[.bool (decide (x < 0)), p]) x) := ⟨p, rfl, hp.drew⟩
  have HY : Hid (Wh w.drew (.agg #[.bool (decide (y < 0)), q]) y) := ⟨q, rfl, hq.drew⟩
  obtain ⟨A6, n6, c6, rfl⟩ := hp.form
  obtain ⟨A7, n7, c7, rfl⟩ := hq.form
  have HLX : Hid ((dg 1000000000 x.natAbs).length ≤ 1000000) := Nat.le_trans (len23 hx) (by decide)
  have HLY : Hid ((dg 1000000000 y.natAbs).length ≤ 1000000) := Nat.le_trans (len23 hy) (by decide)
  have HL : Hid ((dg 1000000000 (x * y).natAbs).length ≤ 1000000) := by show _ ≤ _; rw [Int.natAbs_mul]; exact Nat.le_trans (len_mul hx hy) (by decide)
  generalize hbx : decide (x < 0) = bx at *
  generalize hby : decide (y < 0) = by_ at *
  clear h ht hp hq hbx hby hx hy
  obtain ⟨o, ho⟩ : ∃ o, textOut (x * y) = o := ⟨_, rfl⟩
  have HO := Lib.hid ho
  rw [ho]
  clear ho
  cases o with
  | ok r =>
    go_enter Tryz.func56, Tryz.ntmps56
    go_wp2_with fail
    go_region_with (first
      | (go_at_call 57; refine (mul_c _ _ x y _ HX.out HY.out HLX.out HLY.out).mono ?_; rintro e W2 ⟨u, rfl, hu, hbz⟩; have HU := Lib.hid hu; have HB := Lib.hid (below_then' (Below.refl w.heap.size w).drew hbz); clear hu hbz)
      | (go_at_call 58; refine (text_out _ (x * y) _ HU.out (HT.out.below HB.out) HL.out).mono ?_; rw [HO.out]; rintro e W3 ⟨he, hbz⟩; have he2 : e = .returned r := he; subst he2; have HB2 := Lib.hid (below_then' HB.out hbz); clear he hbz))
    all_goals
      go_wp2
      go_ret
      exact ⟨rfl, HB2.out⟩
  | err k =>
    go_enter Tryz.func56, Tryz.ntmps56
    go_wp2_with fail
    go_region_dies
    all_goals
      go_at_call 57
      refine (mul_c _ _ x y _ HX.out HY.out HLX.out HLY.out).mono ?_
      rintro e W2 ⟨u, rfl, hu, hbz⟩
      have HU := Lib.hid hu
      have HB := Lib.hid (below_then' (Below.refl w.heap.size w).drew hbz)
      clear hu hbz
      dsimp only
      apply_assumption
      refine wpAny_ready (rs := [7]) (by kernel_rfl) (by simp) ?_
      refine AllReady.cons rfl (fun K hK => ?_) AllReady.nil
      go_simp
      go_at_call 58
      refine (text_out _ (x * y) _ HU.out (HT.out.below HB.out) HL.out).mono ?_
      rw [HO.out]
      rintro e W3 ⟨he, hbz⟩
      have he2 : e = .panicked (failChain k) := he
      subst he2
      dsimp only
      first
        | exact ⟨rfl, rfl, below_then' HB.out hbz⟩
        | (apply_assumption; exact ⟨rfl, rfl, below_then' HB.out hbz⟩)

set_option maxHeartbeats 1000000 in
theorem numMul_c (S T : ByteArray) (w : World) (ht : Tabs w) : Calls Tryz.prog 19 #[.string S, .string T] w (Bi S T (fun x y => textOut (x * y)) (.string ⟨#[]⟩) w) := by
  have HT := Lib.hid ht
  clear ht
  go_enter Tryz.func19, Tryz.ntmps19
  go_wp2_with (go_at_call 55; refine (withStr_c 56 #[] (enters_of Tryz.func56 (by kernel_rfl) rfl) _ [S, T] (fun zs => textOut (zs.headD 0 * zs.getD 1 0)) _ (strs_two w S T _) (by simp) ?hf).mono ?_)
  case hf =>
    intro zs hz W lv hb hw
    obtain ⟨x, y, rfl, hx, hy⟩ := two_zs hz
    exact mul1_c lv x y W hw (HT.out.below (Below.trans ((Below.refl w.heap.size w).alloc (Nat.le_refl _) _) (hb.mono (by simp)))) hx.2 hy.2
  rintro e w' h
  obtain ⟨a, b, rfl, hr⟩ := with_two (f := fun x y => textOut (x * y)) h ((Below.refl w.heap.size w).alloc (Nat.le_refl _) _)
  have HR := Lib.hid hr
  clear h hr
  go_wp2
  go_ret2
  exact HR.out

end Go.Proofs.YtbjgpbdkofadiaaGreatDoor
