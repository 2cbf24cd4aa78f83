/- Package real: the scanner: skip, digits. -/
import Derived.Test.YtekbfommnmikbaaGreatDoorPrint
import Derived.Test.YtekbfommnmikbaaGreatDoorText
namespace Go.Proofs.YtekbfommnmikbaaGreatDoor
set_option linter.unusedVariables false
set_option linter.unusedSimpArgs false
open Go.RowKit Go.Shelf Go.Proofs Go.Sort
attribute [local go_sem ↓] Go.wp_at_zero Go.wp_at_succ

/-- One of some bytes. -/
def inL (of : List UInt8) (b : UInt8) : Bool := decide (0 ≤ Lib.indexByte of b)
/-- Block B is a scanner with this rest. -/
def Sc (B : Nat) (l : List UInt8) (g : Bool) (w : World) : Prop := w.heap[B]? = some (.cells #[.string ⟨l.toArray⟩, .bool g] 104 (0, 0))

theorem own_Kb {B base : Nat} {w w' : World} {e : TypeId} {v : Value} {n : Nat} {xs : List Value} (h : w.ownsRow base e 1 v n xs) (hk : Kb B w w') (hB : B < base) : w'.ownsRow base e 1 v n xs := by
  refine ⟨h.1, h.2.imp id ?_⟩
  rintro ⟨g, cap, cur, rfl, hb, hh, hr⟩
  exact ⟨g, cap, cur, rfl, hb, hk.heap hh (by omega), hr⟩

set_option maxRecDepth 100000 in
set_option maxHeartbeats 2000000 in
theorem skip_c (B : Nat) (l of : List UInt8) (g : Bool) (w : World) (h : Sc B l g w) (hl : l.length ≤ 1000000000000) :
    Calls Tryz.prog 95 #[.pointer (some ⟨B, 0, none⟩), .string ⟨of.toArray⟩] w fun en w' => en = .returned (.string ⟨(skipL (inL of) l).1.toArray⟩) ∧ Sc B (skipL (inL of) l).2 g w' ∧ Kb B w w' := by
  have hh : w.heap[B]? = some (.cells #[.string ⟨l.toArray⟩, .bool g] 104 (0, 0)) := h
  have f0 := free_of_heap hh 0
  have HH := Lib.hid h
  cases l with
  | nil =>
    rw [show (skipL (inL of) ([] : List UInt8)) = ([], []) from rfl]
    have d0 : w.cell? ⟨B, 0, none⟩ = some (.string ⟨#[]⟩) := cell_of_heap hh 0
    clear hh h
    go_enter Tryz.func95, Tryz.ntmps95
    go_wp2_with fail
    go_ret
    exact ⟨rfl, HH.out, Kb.refl _ _⟩
  | cons b t =>
    have hC := fun w' => Tryz.strings_Contains_one ⟨of.toArray⟩ b w'
    obtain ⟨S, hS⟩ : ∃ S : ByteArray, ⟨(b :: t).toArray⟩ = S := ⟨_, rfl⟩
    have hse : S.toList.isEmpty = false := by rw [ByteArray.toList_eq, ← hS]; rfl
    have hsz : S.size = t.length + 1 := by rw [← hS]; rfl
    have hx1 : S.extract 0 1 = ⟨#[b]⟩ := by rw [← hS]; apply str_eq; rw [ext_list]; rfl
    have hx2 : S.extract 1 (t.length + 1) = ⟨t.toArray⟩ := by rw [← hS]; apply str_eq; rw [ext_list]; simp
    have hl' : t.length + 1 ≤ 1000000000000 := by simpa using hl
    have d0 : w.cell? ⟨B, 0, none⟩ = some (.string S) := by rw [← hS]; exact cell_of_heap hh 0
    by_cases hb : inL of b = true
    · have hr : skipL (inL of) (b :: t) = ([b], t) := by show (if inL of b = true then ([b], t) else ([], b :: t)) = _; rw [if_pos hb]
      rw [hr]
      have hb' : decide (0 ≤ Lib.indexByte (ByteArray.mk of.toArray).data.toList b) = true := hb
      rw [hb'] at hC
      have HC := Lib.hid hC
      clear hC hb' hb hr hh h hl
      go_enter Tryz.func95, Tryz.ntmps95
      go_wp2_with (go_at_call 161; (with_reducible refine (HC.out _).mono ?_); rintro en w2 ⟨rfl, rfl⟩)
      go_ret
      refine ⟨rfl, ?_, Kb.set _ _ _ _⟩
      have := putB HH.out 0 (.string ⟨t.toArray⟩)
      exact this
    · have hr : skipL (inL of) (b :: t) = ([], b :: t) := by show (if inL of b = true then ([b], t) else ([], b :: t)) = _; rw [if_neg hb]
      rw [hr]
      have hb' : decide (0 ≤ Lib.indexByte (ByteArray.mk of.toArray).data.toList b) = false := Bool.eq_false_iff.2 hb
      rw [hb'] at hC
      have HC := Lib.hid hC
      clear hC hb' hb hr hh h hl
      go_enter Tryz.func95, Tryz.ntmps95
      go_wp2_with (go_at_call 161; (with_reducible refine (HC.out _).mono ?_); rintro en w2 ⟨rfl, rfl⟩)
      go_ret
      exact ⟨rfl, HH.out, Kb.refl _ _⟩

/-- The decimal digits. -/
def decL : List UInt8 := [48, 49, 50, 51, 52, 53, 54, 55, 56, 57]
theorem inL_dec (b : UInt8) : inL decL b = isD b := by
  have : ∀ b : Fin 256, inL decL (UInt8.ofNat b) = isD (UInt8.ofNat b) := by decide +kernel
  have h := this ⟨b.toNat, b.toNat_lt⟩
  simpa using h
def dvs (l : List UInt8) : List Int := l.map fun b => (b.toNat : Int) - 48
theorem tw_all : ∀ {p r : List UInt8}, (∀ b ∈ p, isD b = true) → (¬ ∃ b t, r = b :: t ∧ isD b = true) → (p ++ r).takeWhile isD = p ∧ (p ++ r).dropWhile isD = r
  | [], r, _, hr => by
    cases r with
    | nil => exact ⟨rfl, rfl⟩
    | cons b t =>
      have hb : isD b ≠ true := fun h => hr ⟨b, t, rfl, h⟩
      rw [List.nil_append, List.takeWhile_cons, List.dropWhile_cons, if_neg hb, if_neg hb]
      exact ⟨rfl, rfl⟩
  | a :: p, r, hp, hr => by
    obtain ⟨h1, h2⟩ := tw_all (p := p) (r := r) (fun b hb => hp b (List.mem_cons_of_mem _ hb)) hr
    have ha := hp a (List.mem_cons_self ..)
    rw [List.cons_append, List.takeWhile_cons, List.dropWhile_cons, if_pos ha, if_pos ha, h1, h2]
    exact ⟨rfl, rfl⟩
theorem isD_val {b : UInt8} (h : isD b = true) : 0 ≤ (b.toNat : Int) - 48 ∧ (b.toNat : Int) - 48 < 10 := by
  unfold isD at h
  rw [Bool.and_eq_true, decide_eq_true_iff, decide_eq_true_iff] at h
  omega

set_option maxRecDepth 100000 in
set_option maxHeartbeats 4000000 in
theorem digits_c (B : Nat) (l : List UInt8) (g : Bool) (w : World) (h : Sc B l g w) (hB : B < w.heap.size) (hl : l.length ≤ 1000000000000) :
    Calls Tryz.prog 96 #[.pointer (some ⟨B, 0, none⟩)] w fun en w' => ∃ v, en = .returned v ∧ w'.ownsRow w.heap.size 5 1 v (l.takeWhile isD).length ((dvs (l.takeWhile isD)).map (Value.int .u8)) ∧ Sc B (l.dropWhile isD) (g && !(l.takeWhile isD).isEmpty) w' ∧ Kb B w w' := by
  have HH := Lib.hid h
  obtain ⟨i0, hi, hz0, hz1, hz2⟩ := info_parts info_byte
  have HI := Lib.hid (And.intro hi (And.intro hz0 (And.intro hz1 hz2)))
  have HSK := Lib.hid (fun (r : List UInt8) (w' : World) (hs : Sc B r g w') (hr : r.length ≤ 1000000000000) => (show Calls Tryz.prog 95 #[.pointer (some ⟨B, 0, none⟩), .string ⟨#[48, 49, 50, 51, 52, 53, 54, 55, 56, 57]⟩] w' fun en w2 => en = .returned (.string ⟨(skipL (inL decL) r).1.toArray⟩) ∧ Sc B (skipL (inL decL) r).2 g w2 ∧ Kb B w' w2 from skip_c B r decL g w' hs hr))
  clear hi hz0 hz1 hz2 h
  go_enter Tryz.func96, Tryz.ntmps96
  go_wp2_with fail
  go_loopg [3] l.length (fun gg lv wr => ∃ (r p : List UInt8), r.length = gg ∧ Hid (l = p ++ r) ∧ Hid (∀ b ∈ p, isD b = true) ∧ Hid (wr.ownsRow w.heap.size 5 1 lv p.length ((dvs p).map (Value.int .u8))) ∧ Hid (Sc B r g wr) ∧ Hid (Kb B w wr))
  case atStart => exact ⟨l, [], rfl, rfl, fun b hb => (by cases hb), World.ownsRow_nil _ _ _ _, HH.out, Kb.refl _ _⟩
  case round =>
    obtain ⟨r, p, hg, HLP, HPD, HOW, HSC, HKB⟩ := hrel
    have hrl : r.length ≤ 1000000000000 := by have := congrArg List.length HLP.out; rw [List.length_append] at this; omega
    have hpl : p.length ≤ 1000000000000 := by have := congrArg List.length HLP.out; rw [List.length_append] at this; omega
    have hsz := HKB.out.size
    have HS := Lib.hid (HSK.out r wr HSC.out hrl)
    by_cases hst : ∃ b t, r = b :: t ∧ isD b = true
    · obtain ⟨b, t, rfl, hb⟩ := hst
      have e : skipL (inL decL) (b :: t) = ([b], t) := by show (if inL decL b = true then ([b], t) else ([], b :: t)) = _; rw [inL_dec, if_pos hb]
      rw [e] at HS
      obtain ⟨v0, v1⟩ := isD_val hb
      have HBD := Lib.hid hb
      obtain ⟨x, hx⟩ : ∃ x, (b.toNat : Int) - 48 = x := ⟨_, rfl⟩
      rw [hx] at v0 v1
      have hwr : ((((⟨#[b]⟩ : ByteArray)[0]'(show 0 < ByteArray.size ⟨#[b]⟩ from Nat.one_pos)).toNat : Int) - 48) % 256 = x := by
        show ((b.toNat : Int) - 48) % 256 = x
        omega
      have HX := Lib.hid hx
      clear e hb hx
      go_wp2_with (first
        | (go_at_call 95; (with_reducible refine (HS.out).mono ?_); rintro en w2 ⟨rfl, hsc, hkb⟩; have HSC2 := Lib.hid hsc; have HKB2 := Lib.hid hkb; have HOW2 := Lib.hid (own_Kb HOW.out hkb hB); have hsz2 := hkb.size; clear hsc hkb)
        | (at_builtin; refine wpList_append_own _ rfl _ _ 93 rfl w.heap.size 5 i0 (.int .u8 0) 1 1 Tryz.underlying93 HI.out.1 HI.out.2.1 HI.out.2.2.1 HI.out.2.2.2 rfl (by decide) _ _ _ rfl (HOW2.out.alloc _) ⟨w2.heap.size, 0, none⟩ 1 1 [.int .u8 x] rfl rfl (cell_one_new _ _ _) (by simp [Value.oneCell']) (by unfold maxLen; omega) (by omega) (by simp; omega) ?_; intro v' w3 hown1 hgrow1 _; have HO1 := Lib.hid hown1; have HG1 := Lib.hid hgrow1; clear hown1 hgrow1))
      go_roundg (gk - 1)
      case measure => simp at hg; omega
      case rel =>
        have hbw3 : Below w.heap.size w2 w3 := ((Below.refl w.heap.size w2).alloc (by omega) _).grown HG1.out (by simp; omega) (own_from HOW2.out)
        refine ⟨t, p ++ [b], by simp at hg; omega, ?_, ?_, ?_, ?_, ?_⟩
        · show l = _
          rw [HLP.out, List.append_assoc]; rfl
        · intro y hy
          rcases List.mem_append.1 hy with hy | hy
          · exact HPD.out y hy
          · rw [List.mem_singleton.1 hy]; exact HBD.out
        · have h1 := HO1.out
          unfold dvs
          rw [List.length_append, List.map_append, List.map_append]
          simp only [List.map_cons, List.map_nil, List.length_cons, List.length_nil]
          rw [HX.out]
          exact h1
        · exact (hbw3.block B hB).trans HSC2.out
        · exact (HKB.out.trans HKB2.out).trans' hbw3 (Nat.le_refl _)
    · have e : skipL (inL decL) r = ([], r) := by
        cases r with
        | nil => rfl
        | cons b t =>
          show (if inL decL b = true then ([b], t) else ([], b :: t)) = _
          rw [inL_dec, if_neg fun h => hst ⟨b, t, rfl, h⟩]
      rw [e] at HS
      obtain ⟨ht, hd⟩ := tw_all HPD.out hst
      rw [← HLP.out] at ht hd
      have HTD := Lib.hid (And.intro ht hd)
      have hlen : (dvs p).length = p.length := by unfold dvs; rw [List.length_map]
      obtain ⟨A1, c1, hu3, hc1, hm1, hr1, hf1⟩ := own_row HOW.out
      rw [hlen] at hu3 hc1
      subst hu3
      clear hlen
      have hm1' : c1 ≤ 9223372036854775807 := by unfold maxLen at hm1; omega
      have HC1 := Lib.hid (And.intro hc1 hm1')
      clear e ht hd hst hr1 hf1 hc1 hm1 hm1'
      obtain ⟨pe, hpe⟩ : ∃ pe, (!p.isEmpty) = pe := ⟨_, rfl⟩
      have HPE := Lib.hid hpe
      have hpd : decide (0 < p.length) = pe := by
        rw [← hpe]
        cases p with
        | nil => rfl
        | cons a q => exact decide_eq_true (by rw [List.length_cons]; omega)
      clear hpe
      have fin : Hid (∀ (w2 : World) (gg : Bool), w2.ownsRow w.heap.size 5 1 (.slice A1 p.length c1) p.length ((dvs p).map (Value.int .u8)) → Sc B r g w2 → Kb B w w2 → (w2.setCell ⟨B, 1, none⟩ (.bool gg)).ownsRow w.heap.size 5 1 (.slice A1 p.length c1) p.length ((dvs p).map (Value.int .u8)) ∧ Sc B r gg (w2.setCell ⟨B, 1, none⟩ (.bool gg)) ∧ Kb B w (w2.setCell ⟨B, 1, none⟩ (.bool gg))) := by
        intro w2 gg ho hs hk
        exact ⟨own_setCell_other ho ⟨B, 1, none⟩ (.bool gg) (own_neB ho hB), putB hs 1 (.bool gg), hk.trans (Kb.set _ _ _ _)⟩
      cases g with
      | true =>
        go_wp2_with (first
          | (go_at_call 95; (with_reducible refine (HS.out).mono ?_); rintro en w2 ⟨rfl, hsc, hkb⟩; have HKB2 := Lib.hid (HKB.out.trans hkb); have HOW2 := Lib.hid (own_Kb HOW.out hkb hB); have s1 : w2.cell? ⟨B, 1, none⟩ = some (.bool true) := cell_of_heap hsc 1; have y1 : w2.frozen? ⟨B, 1, none⟩ = false := free_of_heap hsc 1; have HSC2 := Lib.hid hsc; clear hsc hkb))
        go_ret
        rw [HTD.out.1, HTD.out.2, HPE.out, Bool.true_and]
        exact ⟨_, rfl, fin.out w2 pe HOW2.out HSC2.out HKB2.out⟩
      | false =>
        go_wp2_with (first
          | (go_at_call 95; (with_reducible refine (HS.out).mono ?_); rintro en w2 ⟨rfl, hsc, hkb⟩; have HKB2 := Lib.hid (HKB.out.trans hkb); have HOW2 := Lib.hid (own_Kb HOW.out hkb hB); have s1 : w2.cell? ⟨B, 1, none⟩ = some (.bool false) := cell_of_heap hsc 1; have y1 : w2.frozen? ⟨B, 1, none⟩ = false := free_of_heap hsc 1; have HSC2 := Lib.hid hsc; clear hsc hkb))
        go_ret
        rw [HTD.out.1, HTD.out.2, Bool.false_and]
        exact ⟨_, rfl, fin.out w2 false HOW2.out HSC2.out HKB2.out⟩
end Go.Proofs.YtekbfommnmikbaaGreatDoor
