/- Texts of this claim, merged: Scan, Expo, Parse, Places, RealV, RealY, SanR, Sanity, RFrame. -/
import Derived.Test.YtekbfommnmikbaaGreatDoorU6
import Derived.Laws.AppendOwnNone
import Derived.Test.YtekbfommnmikbaaGreatDoorRows
import Derived.ProofKit
import Derived.LaidMore
import Derived.Lay
import Derived.OpenShut
import Derived.Stop.Joined
import Derived.ChangeSame
/- Package real: the scanner: skip, digits. -/
namespace Go.Proofs.YtekbfommnmikbaaGreatDoor
set_option linter.unusedVariables false
set_option linter.unusedSimpArgs false
open Go.RowKit Go.Shelf Go.Proofs Go.Sort
attribute [local go_sem ↓] Go.wp_at_zero Go.wp_at_succ

/-- One of some bytes. -/
def inL (of : List UInt8) (b : UInt8) : Bool := decide (0 ≤ Lib.indexByte of b)
/-- Block B is a scanner with this rest. -/
def Sc (B : Nat) (l : List UInt8) (g : Bool) (w : World) : Prop := w.heap[B]? = some (.cells #[.string ⟨l.toArray⟩, .bool g] 104 (0, 0))

theorem own_Kb {B base : Nat} {w w' : World} {e : TypeId} {v : Value} {n : Nat} {xs : List Value} (h : w.ownsRow base e 1 v n xs) (hk : Kb B w w') (hB : B < base) : w'.ownsRow base e 1 v n xs := by
  refine ⟨h.1, h.2.imp id ?_⟩
  rintro ⟨g, cap, cur, rfl, hb, hh, hr⟩
  exact ⟨g, cap, cur, rfl, hb, hk.heap hh (by omega), hr⟩

set_option maxRecDepth 100000 in
set_option maxHeartbeats 2000000 in
theorem skip_c (B : Nat) (l of : List UInt8) (g : Bool) (w : World) (h : Sc B l g w) (hl : l.length ≤ 1000000000000) :
    Calls Tryz.prog 95 #[.pointer (some ⟨B, 0, none⟩), .string ⟨of.toArray⟩] w fun en w' => en = .returned (.string ⟨(skipL (inL of) l).1.toArray⟩) ∧ Sc B (skipL (inL of) l).2 g w' ∧ Kb B w w' := by
  have hh : w.heap[B]? = some (.cells #[.string ⟨l.toArray⟩, .bool g] 104 (0, 0)) := h
  have f0 := free_of_heap hh 0
  have HH := Lib.hid h
  cases l with
  | nil =>
    rw [show (skipL (inL of) ([] : List UInt8)) = ([], []) from rfl]
    have d0 : w.cell? ⟨B, 0, none⟩ = some (.string ⟨#[]⟩) := cell_of_heap hh 0
    clear hh h
    go_enter Tryz.func95, Tryz.ntmps95
    go_wp2_with fail
    go_ret
    exact ⟨rfl, HH.out, Kb.refl _ _⟩
  | cons b t =>
    have hC := fun w' => Tryz.strings_Contains_one ⟨of.toArray⟩ b w'
    obtain ⟨S, hS⟩ : ∃ S : ByteArray, ⟨(b :: t).toArray⟩ = S := ⟨_, rfl⟩
    have hse : S.toList.isEmpty = false := by rw [ByteArray.toList_eq, ← hS]; rfl
    have hsz : S.size = t.length + 1 := by rw [← hS]; rfl
    have hx1 : S.extract 0 1 = ⟨#[b]⟩ := by rw [← hS]; apply str_eq; rw [ext_list]; rfl
    have hx2 : S.extract 1 (t.length + 1) = ⟨t.toArray⟩ := by rw [← hS]; apply str_eq; rw [ext_list]; simp
    have hl' : t.length + 1 ≤ 1000000000000 := by simpa using hl
    have d0 : w.cell? ⟨B, 0, none⟩ = some (.string S) := by rw [← hS]; exact cell_of_heap hh 0
    by_cases hb : inL of b = true
    · have hr : skipL (inL of) (b :: t) = ([b], t) := by show (if inL of b = true then ([b], t) else ([], b :: t)) = _; rw [if_pos hb]
      rw [hr]
      have hb' : decide (0 ≤ Lib.indexByte (ByteArray.mk of.toArray).data.toList b) = true := hb
      rw [hb'] at hC
      have HC := Lib.hid hC
      clear hC hb' hb hr hh h hl
      go_enter Tryz.func95, Tryz.ntmps95
      go_wp2_with (go_at_call 161; (with_reducible refine (HC.out _).mono ?_); rintro en w2 ⟨rfl, rfl⟩)
      go_ret
      refine ⟨rfl, ?_, Kb.set _ _ _ _⟩
      have := putB HH.out 0 (.string ⟨t.toArray⟩)
      exact this
    · have hr : skipL (inL of) (b :: t) = ([], b :: t) := by show (if inL of b = true then ([b], t) else ([], b :: t)) = _; rw [if_neg hb]
      rw [hr]
      have hb' : decide (0 ≤ Lib.indexByte (ByteArray.mk of.toArray).data.toList b) = false := Bool.eq_false_iff.2 hb
      rw [hb'] at hC
      have HC := Lib.hid hC
      clear hC hb' hb hr hh h hl
      go_enter Tryz.func95, Tryz.ntmps95
      go_wp2_with (go_at_call 161; (with_reducible refine (HC.out _).mono ?_); rintro en w2 ⟨rfl, rfl⟩)
      go_ret
      exact ⟨rfl, HH.out, Kb.refl _ _⟩

/-- The decimal digits. -/
def decL : List UInt8 := [48, 49, 50, 51, 52, 53, 54, 55, 56, 57]
theorem inL_dec (b : UInt8) : inL decL b = isD b := by
  have : ∀ b : Fin 256, inL decL (UInt8.ofNat b) = isD (UInt8.ofNat b) := by decide +kernel
  have h := this ⟨b.toNat, b.toNat_lt⟩
  simpa using h
def dvs (l : List UInt8) : List Int := l.map fun b => (b.toNat : Int) - 48
theorem tw_all : ∀ {p r : List UInt8}, (∀ b ∈ p, isD b = true) → (¬ ∃ b t, r = b :: t ∧ isD b = true) → (p ++ r).takeWhile isD = p ∧ (p ++ r).dropWhile isD = r
  | [], r, _, hr => by
    cases r with
    | nil => exact ⟨rfl, rfl⟩
    | cons b t =>
      have hb : isD b ≠ true := fun h => hr ⟨b, t, rfl, h⟩
      rw [List.nil_append, List.takeWhile_cons, List.dropWhile_cons, if_neg hb, if_neg hb]
      exact ⟨rfl, rfl⟩
  | a :: p, r, hp, hr => by
    obtain ⟨h1, h2⟩ := tw_all (p := p) (r := r) (fun b hb => hp b (List.mem_cons_of_mem _ hb)) hr
    have ha := hp a (List.mem_cons_self ..)
    rw [List.cons_append, List.takeWhile_cons, List.dropWhile_cons, if_pos ha, if_pos ha, h1, h2]
    exact ⟨rfl, rfl⟩
theorem isD_val {b : UInt8} (h : isD b = true) : 0 ≤ (b.toNat : Int) - 48 ∧ (b.toNat : Int) - 48 < 10 := by
  unfold isD at h
  rw [Bool.and_eq_true, decide_eq_true_iff, decide_eq_true_iff] at h
  omega

set_option maxRecDepth 100000 in
set_option maxHeartbeats 4000000 in
theorem digits_c (B : Nat) (l : List UInt8) (g : Bool) (w : World) (h : Sc B l g w) (hB : B < w.heap.size) (hl : l.length ≤ 1000000000000) :
    Calls Tryz.prog 96 #[.pointer (some ⟨B, 0, none⟩)] w fun en w' => ∃ v, en = .returned v ∧ w'.ownsRow w.heap.size 5 1 v (l.takeWhile isD).length ((dvs (l.takeWhile isD)).map (Value.int .u8)) ∧ Sc B (l.dropWhile isD) (g && !(l.takeWhile isD).isEmpty) w' ∧ Kb B w w' := by
  have HH := Lib.hid h
  obtain ⟨i0, hi, hz0, hz1, hz2⟩ := info_parts info_byte
  have HI := Lib.hid (And.intro hi (And.intro hz0 (And.intro hz1 hz2)))
  have HSK := Lib.hid (fun (r : List UInt8) (w' : World) (hs : Sc B r g w') (hr : r.length ≤ 1000000000000) => (show Calls Tryz.prog 95 #[.pointer (some ⟨B, 0, none⟩), .string ⟨#[48, 49, 50, 51, 52, 53, 54, 55, 56, 57]⟩] w' fun en w2 => en = .returned (.string ⟨(skipL (inL decL) r).1.toArray⟩) ∧ Sc B (skipL (inL decL) r).2 g w2 ∧ Kb B w' w2 from skip_c B r decL g w' hs hr))
  clear hi hz0 hz1 hz2 h
  go_enter Tryz.func96, Tryz.ntmps96
  go_wp2_with fail
  go_loopg [3] l.length (fun gg lv wr => ∃ (r p : List UInt8), r.length = gg ∧ Hid (l = p ++ r) ∧ Hid (∀ b ∈ p, isD b = true) ∧ Hid (wr.ownsRow w.heap.size 5 1 lv p.length ((dvs p).map (Value.int .u8))) ∧ Hid (Sc B r g wr) ∧ Hid (Kb B w wr))
  case atStart => exact ⟨l, [], rfl, rfl, fun b hb => (by cases hb), World.ownsRow_nil _ _ _ _, HH.out, Kb.refl _ _⟩
  case round =>
    obtain ⟨r, p, hg, HLP, HPD, HOW, HSC, HKB⟩ := hrel
    have hrl : r.length ≤ 1000000000000 := by have := congrArg List.length HLP.out; rw [List.length_append] at this; omega
    have hpl : p.length ≤ 1000000000000 := by have := congrArg List.length HLP.out; rw [List.length_append] at this; omega
    have hsz := HKB.out.size
    have HS := Lib.hid (HSK.out r wr HSC.out hrl)
    by_cases hst : ∃ b t, r = b :: t ∧ isD b = true
    · obtain ⟨b, t, rfl, hb⟩ := hst
      have e : skipL (inL decL) (b :: t) = ([b], t) := by show (if inL decL b = true then ([b], t) else ([], b :: t)) = _; rw [inL_dec, if_pos hb]
      rw [e] at HS
      obtain ⟨v0, v1⟩ := isD_val hb
      have HBD := Lib.hid hb
      obtain ⟨x, hx⟩ : ∃ x, (b.toNat : Int) - 48 = x := ⟨_, rfl⟩
      rw [hx] at v0 v1
      have hwr : ((((⟨#[b]⟩ : ByteArray)[0]'(show 0 < ByteArray.size ⟨#[b]⟩ from Nat.one_pos)).toNat : Int) - 48) % 256 = x := by
        show ((b.toNat : Int) - 48) % 256 = x
        omega
      have HX := Lib.hid hx
      clear e hb hx
      go_wp2_with (first
        | (go_at_call 95; (with_reducible refine (HS.out).mono ?_); rintro en w2 ⟨rfl, hsc, hkb⟩; have HSC2 := Lib.hid hsc; have HKB2 := Lib.hid hkb; have HOW2 := Lib.hid (own_Kb HOW.out hkb hB); have hsz2 := hkb.size; clear hsc hkb)
        | (at_builtin; refine wpList_append_own _ rfl _ _ 93 rfl w.heap.size 5 i0 (.int .u8 0) 1 1 Tryz.underlying93 HI.out.1 HI.out.2.1 HI.out.2.2.1 HI.out.2.2.2 rfl (by decide) _ _ _ rfl (HOW2.out.alloc _) ⟨w2.heap.size, 0, none⟩ 1 1 [.int .u8 x] rfl rfl (cell_one_new _ _ _) (by simp [Value.oneCell']) (by unfold maxLen; omega) (by omega) (by simp; omega) ?_; intro v' w3 hown1 hgrow1 _; have HO1 := Lib.hid hown1; have HG1 := Lib.hid hgrow1; clear hown1 hgrow1))
      go_roundg (gk - 1)
      case measure => simp at hg; omega
      case rel =>
        have hbw3 : Below w.heap.size w2 w3 := ((Below.refl w.heap.size w2).alloc (by omega) _).grown HG1.out (by simp; omega) (own_from HOW2.out)
        refine ⟨t, p ++ [b], by simp at hg; omega, ?_, ?_, ?_, ?_, ?_⟩
        · show l = _
          rw [HLP.out, List.append_assoc]; rfl
        · intro y hy
          rcases List.mem_append.1 hy with hy | hy
          · exact HPD.out y hy
          · rw [List.mem_singleton.1 hy]; exact HBD.out
        · have h1 := HO1.out
          unfold dvs
          rw [List.length_append, List.map_append, List.map_append]
          simp only [List.map_cons, List.map_nil, List.length_cons, List.length_nil]
          rw [HX.out]
          exact h1
        · exact (hbw3.block B hB).trans HSC2.out
        · exact (HKB.out.trans HKB2.out).trans' hbw3 (Nat.le_refl _)
    · have e : skipL (inL decL) r = ([], r) := by
        cases r with
        | nil => rfl
        | cons b t =>
          show (if inL decL b = true then ([b], t) else ([], b :: t)) = _
          rw [inL_dec, if_neg fun h => hst ⟨b, t, rfl, h⟩]
      rw [e] at HS
      obtain ⟨ht, hd⟩ := tw_all HPD.out hst
      rw [← HLP.out] at ht hd
      have HTD := Lib.hid (And.intro ht hd)
      have hlen : (dvs p).length = p.length := by unfold dvs; rw [List.length_map]
      obtain ⟨A1, c1, hu3, hc1, hm1, hr1, hf1⟩ := own_row HOW.out
      rw [hlen] at hu3 hc1
      subst hu3
      clear hlen
      have hm1' : c1 ≤ 9223372036854775807 := by unfold maxLen at hm1; omega
      have HC1 := Lib.hid (And.intro hc1 hm1')
      clear e ht hd hst hr1 hf1 hc1 hm1 hm1'
      obtain ⟨pe, hpe⟩ : ∃ pe, (!p.isEmpty) = pe := ⟨_, rfl⟩
      have HPE := Lib.hid hpe
      have hpd : decide (0 < p.length) = pe := by
        rw [← hpe]
        cases p with
        | nil => rfl
        | cons a q => exact decide_eq_true (by rw [List.length_cons]; omega)
      clear hpe
      have fin : Hid (∀ (w2 : World) (gg : Bool), w2.ownsRow w.heap.size 5 1 (.slice A1 p.length c1) p.length ((dvs p).map (Value.int .u8)) → Sc B r g w2 → Kb B w w2 → (w2.setCell ⟨B, 1, none⟩ (.bool gg)).ownsRow w.heap.size 5 1 (.slice A1 p.length c1) p.length ((dvs p).map (Value.int .u8)) ∧ Sc B r gg (w2.setCell ⟨B, 1, none⟩ (.bool gg)) ∧ Kb B w (w2.setCell ⟨B, 1, none⟩ (.bool gg))) := by
        intro w2 gg ho hs hk
        exact ⟨own_setCell_other ho ⟨B, 1, none⟩ (.bool gg) (own_neB ho hB), putB hs 1 (.bool gg), hk.trans (Kb.set _ _ _ _)⟩
      cases g with
      | true =>
        go_wp2_with (first
          | (go_at_call 95; (with_reducible refine (HS.out).mono ?_); rintro en w2 ⟨rfl, hsc, hkb⟩; have HKB2 := Lib.hid (HKB.out.trans hkb); have HOW2 := Lib.hid (own_Kb HOW.out hkb hB); have s1 : w2.cell? ⟨B, 1, none⟩ = some (.bool true) := cell_of_heap hsc 1; have y1 : w2.frozen? ⟨B, 1, none⟩ = false := free_of_heap hsc 1; have HSC2 := Lib.hid hsc; clear hsc hkb))
        go_ret
        rw [HTD.out.1, HTD.out.2, HPE.out, Bool.true_and]
        exact ⟨_, rfl, fin.out w2 pe HOW2.out HSC2.out HKB2.out⟩
      | false =>
        go_wp2_with (first
          | (go_at_call 95; (with_reducible refine (HS.out).mono ?_); rintro en w2 ⟨rfl, hsc, hkb⟩; have HKB2 := Lib.hid (HKB.out.trans hkb); have HOW2 := Lib.hid (own_Kb HOW.out hkb hB); have s1 : w2.cell? ⟨B, 1, none⟩ = some (.bool false) := cell_of_heap hsc 1; have y1 : w2.frozen? ⟨B, 1, none⟩ = false := free_of_heap hsc 1; have HSC2 := Lib.hid hsc; clear hsc hkb))
        go_ret
        rw [HTD.out.1, HTD.out.2, Bool.false_and]
        exact ⟨_, rfl, fin.out w2 false HOW2.out HSC2.out HKB2.out⟩
end Go.Proofs.YtekbfommnmikbaaGreatDoor
/- Package real: the scanner: exponent. -/
namespace Go.Proofs.YtekbfommnmikbaaGreatDoor
set_option linter.unusedVariables false
set_option linter.unusedSimpArgs false
open Go.RowKit Go.Shelf Go.Proofs Go.Sort
attribute [local go_sem ↓] Go.wp_at_zero Go.wp_at_succ

/-- A sign. -/
def sgnL : List UInt8 := [43, 45]
theorem inL_sgn (b : UInt8) : inL sgnL b = (b == 43 || b == 45) := by
  have : ∀ b : Fin 256, inL sgnL (UInt8.ofNat b) = (UInt8.ofNat b == 43 || UInt8.ofNat b == 45) := by decide +kernel
  have h := this ⟨b.toNat, b.toNat_lt⟩
  simpa using h
theorem mem_tw {p : UInt8 → Bool} {b : UInt8} : ∀ {l : List UInt8}, b ∈ l.takeWhile p → p b = true
  | [], h => by cases h
  | a :: l, h => by
    rw [List.takeWhile_cons] at h
    split at h
    · rename_i ha
      rcases List.mem_cons.1 h with rfl | h
      · exact ha
      · exact mem_tw h
    · cases h
theorem expo_le (l : List UInt8) : expo l ≤ 100000 := by
  have key : ∀ (l : List UInt8) (n : Nat), n ≤ 100000 → l.foldl (fun n b => min 100000 (10 * n + (b.toNat - 48))) n ≤ 100000 := by
    intro l
    induction l with
    | nil => intro n hn; exact hn
    | cons b l ih => intro n hn; rw [List.foldl_cons]; exact ih _ (Nat.min_le_left _ _)
  exact key l 0 (by decide)
theorem expo_snoc (l : List UInt8) (b : UInt8) : expo (l ++ [b]) = min 100000 (10 * expo l + (b.toNat - 48)) := by unfold expo; rw [List.foldl_append]; rfl

/-- What the sign says. -/
def dnL (l : List UInt8) : Bool := (skipL (inL sgnL) l).1 == [45]
def esL (l : List UInt8) : List UInt8 := (skipL (inL sgnL) l).2.takeWhile isD
def erL (l : List UInt8) : List UInt8 := (skipL (inL sgnL) l).2.dropWhile isD
def expV (l : List UInt8) : Int := if dnL l then -(expo (esL l) : Int) else (expo (esL l) : Int)

theorem skip_len (f : UInt8 → Bool) (l : List UInt8) : (skipL f l).2.length ≤ l.length := by
  cases l with
  | nil => exact Nat.le_refl _
  | cons b t =>
    show (if f b = true then ([b], t) else ([], b :: t)).2.length ≤ _
    split
    · show t.length ≤ _; rw [List.length_cons]; omega
    · exact Nat.le_refl _

set_option maxRecDepth 100000 in
set_option maxHeartbeats 4000000 in
theorem exponent_c (B : Nat) (l : List UInt8) (g : Bool) (w : World) (h : Sc B l g w) (hB : B < w.heap.size) (hl : l.length ≤ 1000000000000) :
    Calls Tryz.prog 97 #[.pointer (some ⟨B, 0, none⟩)] w fun en w' => en = .returned (.int .i64 (expV l)) ∧ Sc B (erL l) (g && !(esL l).isEmpty) w' ∧ Kb B w w' := by
  have HH := Lib.hid h
  have HS1 := Lib.hid (show Calls Tryz.prog 95 #[.pointer (some ⟨B, 0, none⟩), .string ⟨#[43, 45]⟩] w fun en w2 => en = .returned (.string ⟨(skipL (inL sgnL) l).1.toArray⟩) ∧ Sc B (skipL (inL sgnL) l).2 g w2 ∧ Kb B w w2 from skip_c B l sgnL g w h hl)
  have hr2 := skip_len (inL sgnL) l
  have hcase : ((skipL (inL sgnL) l).1 = [] ∧ dnL l = false) ∨ ((skipL (inL sgnL) l).1 = [43] ∧ dnL l = false) ∨ ((skipL (inL sgnL) l).1 = [45] ∧ dnL l = true) := by
    unfold dnL
    cases l with
    | nil => exact .inl ⟨rfl, rfl⟩
    | cons b t =>
      rw [show skipL (inL sgnL) (b :: t) = (if inL sgnL b = true then ([b], t) else ([], b :: t)) from rfl, inL_sgn]
      by_cases h1 : b = 43
      · subst h1; exact .inr (.inl ⟨rfl, rfl⟩)
      by_cases h2 : b = 45
      · subst h2; exact .inr (.inr ⟨rfl, rfl⟩)
      rw [if_neg (by simp [h1, h2])]
      exact .inl ⟨rfl, rfl⟩
  obtain ⟨dn, hdn⟩ : ∃ dn, dnL l = dn := ⟨_, rfl⟩
  have HEV : Hid (expV l = if dn then -(expo (esL l) : Int) else (expo (esL l) : Int)) := by show _ = _; unfold expV; rw [hdn]
  have HES : Hid (esL l = (skipL (inL sgnL) l).2.takeWhile isD) := rfl
  have HER : Hid (erL l = (skipL (inL sgnL) l).2.dropWhile isD) := rfl
  obtain ⟨r2, hr2e⟩ : ∃ r2, (skipL (inL sgnL) l).2 = r2 := ⟨_, rfl⟩
  obtain ⟨q2, hq2e⟩ : ∃ q2, (skipL (inL sgnL) l).1 = q2 := ⟨_, rfl⟩
  rw [hr2e, hq2e] at HS1
  rw [hr2e] at hr2 HES HER
  rw [hdn, hq2e] at hcase
  obtain ⟨es, hes⟩ : ∃ es, esL l = es := ⟨_, rfl⟩
  obtain ⟨rr, hrr⟩ : ∃ rr, erL l = rr := ⟨_, rfl⟩
  obtain ⟨ev, hev⟩ : ∃ ev, expV l = ev := ⟨_, rfl⟩
  rw [hes, hev] at HEV
  rw [hes] at HES ⊢
  rw [hrr] at HER ⊢
  rw [hev]
  have hesl : es.length ≤ 1000000000000 := by
    have h1 : es.length ≤ r2.length := by rw [HES.out]; exact (List.takeWhile_sublist _).length_le
    omega
  have HDG := Lib.hid (fun (w' : World) (hs : Sc B r2 g w') (hb : B < w'.heap.size) => digits_c B r2 g w' hs hb (by omega))
  rw [← HES.out, ← HER.out] at HDG
  clear h hr2e hq2e hdn hes hrr hev
  go_enter Tryz.func97, Tryz.ntmps97
  go_upto_region 1 with fail
  go_cut [3] from 7 to 9 (fun v wx => v = .bool dn ∧ Hid (Sc B r2 g wx) ∧ Hid (Kb B w wx))
  case first =>
    rcases hcase with ⟨rfl, rfl⟩ | ⟨rfl, rfl⟩ | ⟨rfl, rfl⟩
    all_goals
      go_wp2_with (go_at_call 95; (with_reducible refine (HS1.out).mono ?_); rintro en w2 ⟨rfl, hsc, hkb⟩; have HSC2 := Lib.hid hsc; have HKB2 := Lib.hid hkb; clear hsc hkb)
      go_meet
      exact ⟨rfl, HSC2.out, HKB2.out⟩
  case rest =>
    obtain ⟨rfl, HSC, HKB⟩ := hcut
    have hBc : B < wc.heap.size := by have := HKB.out.size; omega
    have HD := Lib.hid (HDG.out wc HSC.out hBc)
    clear HDG hcase HS1
    go_upto_region 4 with (first
      | (go_at_call 96; (with_reducible refine (HD.out).mono ?_); rintro en w3 ⟨v, rfl, ho9, hsc, hkb⟩; obtain ⟨A9, c9, rfl, hc9, hm9, hr9, hf9⟩ := own_row ho9; have HSC3 := Lib.hid hsc; have HKB3 := Lib.hid (HKB.out.trans hkb); have HR9 := Lib.hid hr9; clear hsc hkb hr9 hf9 ho9))
    have hdl : (dvs es).length = es.length := by unfold dvs; rw [List.length_map]
    obtain ⟨L, hL⟩ : ∃ L, (dvs es).length = L := ⟨_, rfl⟩
    rw [hL] at hdl hc9
    rw [hL]
    have HL := Lib.hid hL
    clear hL
    go_loopg [4, 13] L (fun gg nv iv wr => ∃ (k : Nat), iv = .int .i64 (k : Int) ∧ k + gg = L ∧ nv = .int .i64 ((expo (es.take k) : Nat) : Int) ∧ wr = w3)
    case atStart => exact ⟨0, rfl, Nat.zero_add _, rfl, rfl⟩
    case round =>
      obtain ⟨k, rfl, hk, rfl, rfl⟩ := hrel
      have HK := Lib.hid hk
      have he1 := expo_le (es.take k)
      by_cases hkL : k < L
      · have hkl : k < (dvs es).length := by rw [HL.out]; exact hkL
        have hke : k < es.length := by omega
        obtain ⟨a9, rfl, hcell⟩ := HR9.out k hkl
        obtain ⟨b, hb⟩ : ∃ b, es[k]'hke = b := ⟨_, rfl⟩
        have hbd : isD b = true := by
          have h1 : b ∈ es := by rw [← hb]; exact List.getElem_mem _
          rw [HES.out] at h1
          exact mem_tw h1
        have hv : (dvs es)[k]?.getD 0 = (b.toNat : Int) - 48 := by
          unfold dvs
          rw [List.getElem?_map, List.getElem?_eq_getElem hke, hb]; rfl
        obtain ⟨v0, v1⟩ := isD_val hbd
        have ht : es.take (k + 1) = es.take k ++ [b] := by rw [List.take_add_one, List.getElem?_eq_getElem hke, hb]; rfl
        have hsn := expo_snoc (es.take k) b
        rw [← ht] at hsn
        rw [hv] at hcell
        obtain ⟨x, hx⟩ : ∃ x, (b.toNat : Int) - 48 = x := ⟨_, rfl⟩
        rw [hx] at hcell v0 v1
        obtain ⟨N, hN⟩ : ∃ N, expo (es.take k) = N := ⟨_, rfl⟩
        obtain ⟨N1, hN1⟩ : ∃ N, expo (es.take (k + 1)) = N := ⟨_, rfl⟩
        rw [hN] at he1 hsn
        rw [hN1] at hsn
        have hmn : min 100000 (10 * (N : Int) + x) = (N1 : Int) := by omega
        have hwr : IntKind.i64.wrap x = x := IntWalk.i64_in _ (by omega)
        have HN1 := Lib.hid hN1
        clear hx hv ht hb hbd hk hkl hke hsn hN1
        go_wp2_with fail
        go_roundg (gk - 1)
        case measure => have := HK.out; omega
        case rel => exact ⟨k + 1, by go_num, by have := HK.out; omega, by rw [HN1.out], rfl⟩
      · obtain rfl : k = L := by omega
        have htl : es.take k = es := List.take_of_length_le (by omega)
        rw [htl] at he1 ⊢
        obtain ⟨N, hN⟩ : ∃ N, expo es = N := ⟨_, rfl⟩
        rw [hN] at HEV he1 ⊢
        clear hk htl hkL
        cases dn with
        | true =>
          go_wp2_with fail
          go_ret
          rw [HEV.out]
          exact ⟨rfl, HSC3.out, HKB3.out⟩
        | false =>
          go_wp2_with fail
          go_ret
          rw [HEV.out]
          exact ⟨rfl, HSC3.out, HKB3.out⟩
end Go.Proofs.YtekbfommnmikbaaGreatDoor
/- Package real: Parse. -/
namespace Go.Proofs.YtekbfommnmikbaaGreatDoor
set_option linter.unusedVariables false
set_option linter.unusedSimpArgs false
open Go.RowKit Go.Shelf Go.Proofs Go.Sort
attribute [local go_sem ↓] Go.wp_at_zero Go.wp_at_succ

/-- Behind the digits: a point and digits. -/
def dotL (l : List UInt8) : List UInt8 × Bool × List UInt8 :=
  if (skipL (inL [46]) l).1.isEmpty then ([], true, l) else ((skipL (inL [46]) l).2.takeWhile isD, !((skipL (inL [46]) l).2.takeWhile isD).isEmpty, (skipL (inL [46]) l).2.dropWhile isD)
/-- Behind them: e, a sign, digits. -/
def eeL (l : List UInt8) : Int × Bool × List UInt8 :=
  if (skipL (inL [101]) l).1.isEmpty then (0, true, l) else (expV (skipL (inL [101]) l).2, !(esL (skipL (inL [101]) l).2).isEmpty, erL (skipL (inL [101]) l).2)
def pNeg (l : List UInt8) : Bool := !(skipL (inL [45]) l).1.isEmpty
def pDs (l : List UInt8) : List UInt8 := (skipL (inL [45]) l).2.takeWhile isD
def pDot (l : List UInt8) : List UInt8 × Bool × List UInt8 := dotL ((skipL (inL [45]) l).2.dropWhile isD)
def pEe (l : List UInt8) : Int × Bool × List UInt8 := eeL (pDot l).2.2
def pGood (l : List UInt8) : Bool := decide (l.length ≤ 80) && !(pDs l).isEmpty && (pDot l).2.1 && (pEe l).2.1
/-- What Parse returns. -/
def parseR (l : List UInt8) : Value :=
  if pGood l = true ∧ (pEe l).2.2 = [] then resR (pNeg l) (rnd (vd (dvs (pDs l ++ (pDot l).1))).toNat (-((pDot l).1.length : Int) + (pEe l).1))
  else .tuple #[.agg #[.int .i64 0, .int .i64 0], .int .i64 7]

theorem dvs_append (a b : List UInt8) : dvs (a ++ b) = dvs a ++ dvs b := by unfold dvs; rw [List.map_append]
theorem dvs_inR {l : List UInt8} (h : ∀ b ∈ l, isD b = true) : InR 10 (dvs l) := fun x hx => by
  unfold dvs at hx
  obtain ⟨b, hb, rfl⟩ := List.mem_map.1 hx
  exact isD_val (h b hb)

/-- The boxes while a text is read: the scanner (block B), the amount (block A), the result (block R). -/
structure Ps (w : World) (B A R base : Nat) (l : List UInt8) (g : Bool) (neg : Bool) (ds : List UInt8) (e : Int) (wx : World) : Prop where
  sc : Sc B l g wx
  am : ∃ v, wx.heap[A]? = some (.cells #[.bool neg, v, .int .i64 e, .bool false] 95 (0, 0)) ∧ wx.ownsRow base 5 1 v ds.length ((dvs ds).map (Value.int .u8))
  res : wx.heap[R]? = some (.cells #[.int .i64 0, .int .i64 0] 23 (0, 0))
  bel : Below w.heap.size w wx

theorem sc_lt {B : Nat} {l : List UInt8} {g : Bool} {w : World} (h : Sc B l g w) : B < w.heap.size := (Array.getElem?_eq_some_iff.1 h).1
theorem dvs_len (l : List UInt8) : (dvs l).length = l.length := by unfold dvs; rw [List.length_map]
theorem news_of {w : World} {ad : Addr} {xs : List Int} (h : Row .u8 w (some ad) xs) : ∀ (j : Nat) (u : Value), (xs.map (Value.int .u8))[j]? = some u → w.cell? (ad.add j) = some u := fun j u hu => by
  rw [List.getElem?_map] at hu
  cases hx : xs[j]? with
  | none => rw [hx] at hu; cases hu
  | some x =>
    rw [hx] at hu
    cases hu
    have hj : j < xs.length := (List.getElem?_eq_some_iff.1 hx).1
    obtain ⟨a, e, hc⟩ := h j hj
    cases e
    rw [hc, hx]; rfl
theorem one_cells {xs : List Int} : ∀ u ∈ xs.map (Value.int .u8), u.oneCell' = true := fun u hu => by
  obtain ⟨x, -, rfl⟩ := List.mem_map.1 hu
  rfl
theorem skip_same {f : UInt8 → Bool} {l : List UInt8} (h : (skipL f l).1.isEmpty = true) : (skipL f l).2 = l := by
  cases l with
  | nil => rfl
  | cons b t =>
    have e : skipL f (b :: t) = if f b = true then ([b], t) else ([], b :: t) := rfl
    rw [e] at h ⊢
    by_cases hb : f b = true
    · rw [if_pos hb] at h; cases h
    · rw [if_neg hb]
/-- The blocks are others; the amount's digits lie behind. -/
structure Pb (w : World) (B A R base : Nat) : Prop where
  ab : A ≠ B
  rb : R ≠ B
  ar : A ≠ R
  b : B < base
  a : A < base
  r : R < base
  wb : w.heap.size ≤ B
  wa : w.heap.size ≤ A
  wbase : w.heap.size ≤ base
theorem Ps.kb {w wx wy : World} {B A R base : Nat} {l l' : List UInt8} {g g' neg : Bool} {ds : List UInt8} {e : Int} (h : Ps w B A R base l g neg ds e wx) (p : Pb w B A R base) (hs : Sc B l' g' wy) (hk : Kb B wx wy) : Ps w B A R base l' g' neg ds e wy := by
  obtain ⟨v, ha, ho⟩ := h.am
  have hB : B < wx.heap.size := (Array.getElem?_eq_some_iff.1 h.sc).1
  exact ⟨hs, ⟨v, hk.heap ha p.ab, own_Kb ho hk p.b⟩, hk.heap h.res p.rb, h.bel.trans ((hk.below hB).mono p.wb)⟩
theorem Ps.put {w wx : World} {B A R base : Nat} {l : List UInt8} {g neg : Bool} {ds ds' : List UInt8} {e : Int} (h : Ps w B A R base l g neg ds e wx) (p : Pb w B A R base) {v : Value} (ho : wx.ownsRow base 5 1 v ds'.length ((dvs ds').map (Value.int .u8))) : Ps w B A R base l g neg ds' e (wx.setCell ⟨A, 1, none⟩ v) := by
  obtain ⟨v0, ha, -⟩ := h.am
  exact ⟨(Below.heap_setCell _ _ _ _ p.ab.symm).trans h.sc, ⟨v, putB ha 1 v, own_setCell_other ho ⟨A, 1, none⟩ v (own_neB ho p.a)⟩, (Below.heap_setCell _ _ _ _ p.ar.symm).trans h.res, h.bel.setCell (p := ⟨A, 1, none⟩) p.wa v⟩
theorem Ps.putE {w wx : World} {B A R base : Nat} {l : List UInt8} {g neg : Bool} {ds : List UInt8} {e : Int} (h : Ps w B A R base l g neg ds e wx) (p : Pb w B A R base) (e' : Int) : Ps w B A R base l g neg ds e' (wx.setCell ⟨A, 2, none⟩ (.int .i64 e')) := by
  obtain ⟨v0, ha, ho⟩ := h.am
  exact ⟨(Below.heap_setCell _ _ _ _ p.ab.symm).trans h.sc, ⟨v0, putB ha 2 _, own_setCell_other ho ⟨A, 2, none⟩ _ (own_neB ho p.a)⟩, (Below.heap_setCell _ _ _ _ p.ar.symm).trans h.res, h.bel.setCell (p := ⟨A, 2, none⟩) p.wa _⟩
theorem Ps.grown {w wx wy : World} {B A R base : Nat} {l : List UInt8} {g neg : Bool} {ds : List UInt8} {e : Int} (h : Ps w B A R base l g neg ds e wx) (p : Pb w B A R base) {v v' : Value} {ds' : List UInt8} (ho : wx.ownsRow base 5 1 v ds.length ((dvs ds).map (Value.int .u8))) (hg : wx.grownBy wy v.ownBlock) (hz : base ≤ wx.heap.size) (ho' : wy.ownsRow base 5 1 v' ds'.length ((dvs ds').map (Value.int .u8))) : Ps w B A R base l g neg ds' e (wy.setCell ⟨A, 1, none⟩ v') := by
  obtain ⟨v0, ha, -⟩ := h.am
  have ha' := grownB hg ha (own_neB ho p.a)
  have hr' := grownB hg h.res (own_neB ho p.r)
  have hs' := grownB hg h.sc (own_neB ho p.b)
  have hb' := h.bel.grown hg h.bel.size ((own_from ho).mono p.wbase)
  exact ⟨(Below.heap_setCell _ _ _ _ p.ab.symm).trans hs', ⟨v', putB ha' 1 v', own_setCell_other ho' ⟨A, 1, none⟩ v' (own_neB ho' p.a)⟩, (Below.heap_setCell _ _ _ _ p.ar.symm).trans hr', hb'.setCell (p := ⟨A, 1, none⟩) p.wa v'⟩
theorem Ps.alloc {w wx : World} {B A R base : Nat} {l : List UInt8} {g neg : Bool} {ds : List UInt8} {e : Int} (h : Ps w B A R base l g neg ds e wx) (o : Obj) : Ps w B A R base l g neg ds e (wx.alloc o) := by
  obtain ⟨v0, ha, ho⟩ := h.am
  exact ⟨heap_old _ h.sc, ⟨v0, heap_old _ ha, ho.alloc _⟩, heap_old _ h.res, h.bel.alloc h.bel.size _⟩
theorem Ps.drew {w wx : World} {B A R base : Nat} {l : List UInt8} {g neg : Bool} {ds : List UInt8} {e : Int} (h : Ps w B A R base l g neg ds e wx) : Ps w B A R base l g neg ds e wx.drew := by
  obtain ⟨v0, ha, ho⟩ := h.am
  exact ⟨h.sc, ⟨v0, ha, ho.drew⟩, h.res, h.bel.drew⟩

set_option maxRecDepth 100000 in
set_option maxHeartbeats 8000000 in
theorem parseR_c (l : List UInt8) (w : World) (hl : l.length ≤ 1000000000000) :
    Calls Tryz.prog 28 #[.string ⟨l.toArray⟩] w fun en w' => en = .returned (parseR l) ∧ Below w.heap.size w w' := by
  obtain ⟨W, hW, k0, hbel⟩ := bx1h w #[.int .i64 0, .int .i64 0] 23
  have hsz : W.heap.size = w.heap.size + 1 := by rw [← hW]; simp
  have HSZ := Lib.hid hsz
  have HBEL := Lib.hid hbel; have HK0 := Lib.hid k0
  obtain ⟨S, hS⟩ : ∃ S : ByteArray, ⟨l.toArray⟩ = S := ⟨_, rfl⟩
  obtain ⟨n, hn⟩ : ∃ n, l.length = n := ⟨_, rfl⟩
  have hsn : S.size = n := by rw [← hS, ← hn]; rfl
  obtain ⟨g0, hg0⟩ : ∃ g, decide ((n : Int) ≤ 80) = g := ⟨_, rfl⟩
  have HSC0 : Hid (Sc W.heap.size l g0 (W.alloc (.cells #[.string S, .bool g0] 104))) := by show Sc _ _ _ _; unfold Sc; rw [hS]; exact heap_alloc_new _ _
  have HLL := Lib.hid hl
  have HSK := Lib.hid (fun (of r : List UInt8) (g : Bool) (w' : World) (hs : Sc W.heap.size r g w') (hr : r.length ≤ l.length) => skip_c W.heap.size r of g w' hs (Nat.le_trans hr HLL.out))
  obtain ⟨q1, hq1⟩ : ∃ q, (skipL (inL [45]) l).1 = q := ⟨_, rfl⟩
  obtain ⟨l1, hl1⟩ : ∃ q, (skipL (inL [45]) l).2 = q := ⟨_, rfl⟩
  have hln1 := skip_len (inL [45]) l
  obtain ⟨S1, hS1⟩ : ∃ S : ByteArray, ⟨q1.toArray⟩ = S := ⟨_, rfl⟩
  obtain ⟨n1, hn1⟩ : ∃ n1, q1.isEmpty = n1 := ⟨_, rfl⟩
  have hse1 : S1.toList.isEmpty = n1 := by rw [ByteArray.toList_eq, ← hS1]; exact hn1
  have HS1 : Hid (Calls Tryz.prog 95 #[.pointer (some ⟨W.heap.size, 0, none⟩), .string ⟨#[45]⟩] (W.alloc (.cells #[.string S, .bool g0] 104)) fun en w2 => en = .returned (.string S1) ∧ Sc W.heap.size l1 g0 w2 ∧ Kb W.heap.size (W.alloc (.cells #[.string S, .bool g0] 104)) w2) := by
    have h := HSK.out [45] l g0 _ HSC0.out (Nat.le_refl _)
    rw [hq1, hl1, hS1] at h
    exact h
  rw [hl1] at hln1
  clear k0 hbel hsz hl
  rw [hS]
  go_enter Tryz.func28, Tryz.ntmps28
  go_upto_region 3 with (first
    | (go_at_call 95; (with_reducible refine (HS1.out).mono ?_); rintro en w2 ⟨rfl, hsc, hkb⟩; have HSC1 := Lib.hid hsc; have HKB1 := Lib.hid hkb; clear hsc hkb))
  obtain ⟨neg, hneg⟩ : ∃ neg, (!n1) = neg := ⟨_, rfl⟩
  rw [hneg]
  obtain ⟨W3, hW3⟩ : ∃ W3, w2.alloc (.cells #[.bool neg, .slice none 0 0, .int .i64 0, .bool false] 95) = W3 := ⟨_, rfl⟩
  rw [hW3]
  have hz2 : W.heap.size < w2.heap.size := (Array.getElem?_eq_some_iff.1 HSC1.out).1
  have hz3 : W3.heap.size = w2.heap.size + 1 := by rw [← hW3]; simp
  have PB : Pb w W.heap.size w2.heap.size w.heap.size W3.heap.size := by
    have := HSZ.out
    exact ⟨by omega, by omega, by omega, by omega, by omega, by omega, by omega, by omega, by omega⟩
  have HPB := Lib.hid PB
  have ps3 : Ps w W.heap.size w2.heap.size w.heap.size W3.heap.size l1 g0 neg [] 0 W3 := by
    have hb0 : Below w.heap.size w w2 := HBEL.out.trans (((Below.refl W.heap.size W).alloc (Nat.le_refl _) _).trans (HKB1.out.below (by simp)) |>.mono (by have := HSZ.out; omega))
    rw [← hW3]
    exact ⟨heap_old _ HSC1.out, ⟨_, heap_alloc_new _ _, World.ownsRow_nil _ _ _ _⟩, heap_old _ (HKB1.out.heap (heap_old _ HK0.out) PB.rb), hb0.alloc hb0.size _⟩
  have HPS3 := Lib.hid ps3
  clear hW3 PB ps3
  have HLP := Lib.hid (show l1.length ≤ l.length from hln1)
  have HLM := Lib.hid (show l1.length ≤ 1000000000000 from Nat.le_trans hln1 HLL.out)
  obtain ⟨ds, hds⟩ : ∃ ds, l1.takeWhile isD = ds := ⟨_, rfl⟩
  obtain ⟨l2, hl2⟩ : ∃ r, l1.dropWhile isD = r := ⟨_, rfl⟩
  have hl2n : l2.length ≤ l1.length := by rw [← hl2]; exact (List.dropWhile_sublist _).length_le
  have hdsn : ds.length ≤ l1.length := by rw [← hds]; exact (List.takeWhile_sublist _).length_le
  have hdsi : ∀ b ∈ ds, isD b = true := fun b hb => by rw [← hds] at hb; exact mem_tw hb
  obtain ⟨g2, hg2⟩ : ∃ g, (g0 && !ds.isEmpty) = g := ⟨_, rfl⟩
  have HD1 := Lib.hid (digits_c W.heap.size l1 g0 W3 HPS3.out.sc (by omega) HLM.out)
  rw [hds, hl2, hg2] at HD1
  obtain ⟨q2, hq2⟩ : ∃ q, (skipL (inL [46]) l2).1 = q := ⟨_, rfl⟩
  obtain ⟨t2, ht2⟩ : ∃ q, (skipL (inL [46]) l2).2 = q := ⟨_, rfl⟩
  have ht2n := skip_len (inL [46]) l2
  obtain ⟨S2, hS2⟩ : ∃ S : ByteArray, ⟨q2.toArray⟩ = S := ⟨_, rfl⟩
  obtain ⟨n2, hn2⟩ : ∃ n, q2.isEmpty = n := ⟨_, rfl⟩
  have hse2 : S2.toList.isEmpty = n2 := by rw [ByteArray.toList_eq, ← hS2]; exact hn2
  have HS2 : Hid (∀ w', Sc W.heap.size l2 g2 w' → Calls Tryz.prog 95 #[.pointer (some ⟨W.heap.size, 0, none⟩), .string ⟨#[46]⟩] w' fun en w2 => en = .returned (.string S2) ∧ Sc W.heap.size t2 g2 w2 ∧ Kb W.heap.size w' w2) := fun w' hs => by
    have h := HSK.out [46] l2 g2 w' hs (by omega)
    rw [hq2, ht2, hS2] at h
    exact h
  rw [ht2] at ht2n
  clear hse1
  go_upto_if 23 with (first
    | (go_at_call 96; (with_reducible refine (HD1.out).mono ?_); rintro en w4 ⟨v, rfl, ho, hsc, hkb⟩; obtain ⟨A4, c4, hv4, -, -, -, -⟩ := own_row ho; rw [show (dvs ds).length = ds.length from by unfold dvs; rw [List.length_map]] at hv4; subst hv4; have ps4 := HPS3.out.kb HPB.out hsc hkb; obtain ⟨v0, ha0, -⟩ := ps4.am; have y1 := free_of_heap ha0 1; have y0 := cell_of_heap ha0 1; have HPS4 := Lib.hid (ps4.put HPB.out ho); have hz4 := hkb.size; simp at y0; clear hsc hkb ho ps4 ha0)
    | (go_at_call 95; (with_reducible refine (HS2.out _ HPS4.out.sc).mono ?_); rintro en w5 ⟨rfl, hsc, hkb⟩; have HPS5 := Lib.hid (HPS4.out.kb HPB.out hsc hkb); have hz5 := hkb.size; simp at hz5; clear hsc hkb))
  obtain ⟨i0, hi, hz0, hz1, hz2⟩ := info_parts info_byte
  have HI := Lib.hid (And.intro hi (And.intro hz0 (And.intro hz1 hz2)))
  clear hi hz0 hz1 hz2
  obtain ⟨⟨bs, ok3, l3⟩, hdot⟩ : ∃ d, dotL l2 = d := ⟨_, rfl⟩
  have HDOT := Lib.hid hdot
  have HQ2 := Lib.hid (And.intro hq2 (And.intro ht2 hn2))
  have hbn : bs.length ≤ l2.length ∧ l3.length ≤ l2.length ∧ ∀ b ∈ bs, isD b = true := by
    unfold dotL at hdot
    rw [ht2] at hdot
    split at hdot
    · cases hdot; exact ⟨Nat.zero_le _, Nat.le_refl _, fun b hb => by cases hb⟩
    · cases hdot
      exact ⟨Nat.le_trans (List.takeWhile_sublist _).length_le ht2n, Nat.le_trans (List.dropWhile_sublist _).length_le ht2n, fun b hb => mem_tw hb⟩
  obtain ⟨hbn1, hbn2, hbn3⟩ := hbn
  obtain ⟨⟨x4, ok4, l4⟩, hee⟩ : ∃ d, eeL l3 = d := ⟨_, rfl⟩
  have HEE := Lib.hid hee
  have HPR : Hid (parseR l = if ((g2 && ok3) && ok4) = true ∧ l4 = [] then resR neg (rnd (vd (dvs (ds ++ bs))).toNat (-(bs.length : Int) + x4)) else .tuple #[.agg #[.int .i64 0, .int .i64 0], .int .i64 7]) := by
    have e1 : pDs l = ds := by unfold pDs; rw [hl1, hds]
    have e2 : pDot l = (bs, ok3, l3) := by unfold pDot; rw [hl1, hl2, hdot]
    have e3 : pEe l = (x4, ok4, l4) := by unfold pEe; rw [e2, hee]
    have e4 : pNeg l = neg := by unfold pNeg; rw [hq1, hn1, hneg]
    have e5 : pGood l = ((g2 && ok3) && ok4) := by
      unfold pGood
      rw [e1, e2, e3, ← hg2, ← hg0, hn]
      congr 3
      exact decide_eq_decide.2 (by omega)
    show parseR l = _
    unfold parseR
    rw [e5, e3, e4, e1, e2]
  have hgood : ((g2 && ok3) && ok4) = true → n ≤ 80 := by
    intro h
    rw [Bool.and_eq_true, Bool.and_eq_true, ← hg2, Bool.and_eq_true, ← hg0, decide_eq_true_iff] at h
    omega
  have HGD := Lib.hid hgood
  have HLN := Lib.hid (show ds.length + bs.length ≤ 2 * n ∧ bs.length ≤ n from by omega)
  have HDI := Lib.hid (show InR 10 (dvs (ds ++ bs)) from dvs_inR fun b hb => (List.mem_append.1 hb).elim (hdsi b) (hbn3 b))
  clear hdot hq2 ht2 hn2 hse2 hee hgood hq1 hn1 hneg hg2 hg0 hds hl1 hl2
  go_cut [6] from 23 to 34 (fun v wx => Hid (Ps w W.heap.size w2.heap.size w.heap.size W3.heap.size l3 (g2 && ok3) neg (ds ++ bs) (-(bs.length : Int)) wx))
  case first =>
    cases n2 with
    | true =>
      go_wp2_with fail
      go_meet
      have h1 := HDOT.out
      unfold dotL at h1
      rw [HQ2.out.1, HQ2.out.2.2, if_pos rfl] at h1
      cases h1
      have h2 : t2 = l2 := by rw [← HQ2.out.2.1]; exact skip_same (by rw [HQ2.out.1]; exact HQ2.out.2.2)
      have h3 := HPS5.out
      rw [h2] at h3
      rw [Bool.and_true, List.append_nil]
      exact h3
    | false =>
      have h1 := HDOT.out
      unfold dotL at h1
      rw [HQ2.out.1, HQ2.out.2.2, if_neg (by decide), HQ2.out.2.1] at h1
      have e1 := congrArg Prod.fst h1
      have e2 := congrArg (fun x => x.2.1) h1
      have e3 := congrArg (fun x => x.2.2) h1
      dsimp only at e1 e2 e3
      have HD2 := Lib.hid (digits_c W.heap.size t2 g2 w5 HPS5.out.sc (sc_lt HPS5.out.sc) (by have := HLM.out; omega))
      rw [e2, e3, e1] at HD2
      clear e1 e2 e3 h1
      go_upto_region 6 with (first
        | (go_at_call 96; (with_reducible refine (HD2.out).mono ?_); rintro en w6 ⟨v6, rfl, ho6, hsc, hkb⟩; have HPS6 := Lib.hid (HPS5.out.kb HPB.out hsc hkb); have HO6 := Lib.hid ho6; have hz6 := hkb.size; clear hsc hkb ho6))
      obtain ⟨v0, ha0, ho0⟩ := HPS6.out.am
      obtain ⟨A0, c0, hv0, -, -, -, -⟩ := own_row ho0
      rw [dvs_len] at hv0
      subst hv0
      have y0 := cell_of_heap ha0 1; have y1 := free_of_heap ha0 1; have y2 := cell_of_heap ha0 2; have y3 := free_of_heap ha0 2
      simp at y0 y2
      have HO0 := Lib.hid ho0; have HA0 := Lib.hid ha0
      have hzb : W3.heap.size ≤ w6.heap.size := by omega
      have hdn : ds.length ≤ 1000000000000 := by have := HLM.out; omega
      have hbn9 : bs.length ≤ 1000000000000 := by have := HLM.out; omega
      have fin : Hid (∀ (w7 : World) (v' : Value), w6.grownBy w7 (Value.slice A0 ds.length c0).ownBlock → w7.ownsRow W3.heap.size 5 1 v' (ds.length + bs.length) ((dvs ds).map (Value.int .u8) ++ (dvs bs).map (Value.int .u8)) → Ps w W.heap.size w2.heap.size w.heap.size W3.heap.size l3 (g2 && ok3) neg (ds ++ bs) (-(bs.length : Int)) ((w7.setCell ⟨w2.heap.size, 1, none⟩ v').setCell ⟨w2.heap.size, 2, none⟩ (.int .i64 (-(bs.length : Int))))) := fun w7 v' hg ho => by
        refine (HPS6.out.grown HPB.out HO0.out hg hzb ?_).putE HPB.out _
        rw [List.length_append, dvs_append, List.map_append]
        exact ho
      obtain ⟨A6, c6, hv6, hc6, hm6, hr6, hf6⟩ := own_row HO6.out
      rw [dvs_len] at hv6
      subst hv6
      have HR6 := Lib.hid hr6
      clear ha0 ho0 hc6 hm6 hr6 hf6
      cases A6 with
      | none =>
        have hb0 : bs = [] := by
          cases bs with
          | nil => rfl
          | cons b t =>
            obtain ⟨a, e, -⟩ := HR6.out 0 (by rw [dvs_len]; exact Nat.succ_pos _)
            cases e
        have hc0 : c6 = 0 := by
          rcases HO6.out.2 with ⟨e, -⟩ | ⟨g, cap, cur, e, -⟩
          · exact (Value.slice.inj e).2.2
          · exact absurd (Value.slice.inj e).1 (by simp)
        subst hc0
        subst hb0
        clear fin HD2 HR6
        go_wp2_with (first
          | (at_builtin; refine wpList_append_own_none rfl _ _ 93 rfl W3.heap.size 5 i0 1 Tryz.underlying93 HI.out.1 _ _ _ rfl HO0.out rfl ?_))
        go_meet
        rw [List.append_nil]
        exact (HPS6.out.put HPB.out HO0.out).putE HPB.out _
      | some ad =>
        go_wp2_with (first
          | (at_builtin; refine wpList_append_own _ rfl _ _ 93 rfl W3.heap.size 5 i0 (.int .u8 0) 1 1 Tryz.underlying93 HI.out.1 HI.out.2.1 HI.out.2.2.1 HI.out.2.2.2 rfl (by decide) _ _ _ rfl HO0.out ad bs.length c6 ((dvs bs).map (Value.int .u8)) rfl (by rw [List.length_map, dvs_len, Nat.mul_one]) (news_of HR6.out) one_cells (by unfold maxLen; omega) (by omega) hzb ?_; intro v' w7 hown7 hgrow7 _; obtain ⟨A7, c7, hv7, -, -, -, -⟩ := own_row (xs := dvs ds ++ dvs bs) (by rw [List.map_append]; exact hown7); rw [show (dvs ds ++ dvs bs).length = ds.length + bs.length from by rw [List.length_append, dvs_len, dvs_len]] at hv7; subst hv7; have z0 := cell_of_heap (grownB hgrow7 HA0.out (own_neB HO0.out HPB.out.a)) 1; have z1 := free_of_heap (grownB hgrow7 HA0.out (own_neB HO0.out HPB.out.a)) 1; have z2 := cell_of_heap (grownB hgrow7 HA0.out (own_neB HO0.out HPB.out.a)) 2; have z3 := free_of_heap (grownB hgrow7 HA0.out (own_neB HO0.out HPB.out.a)) 2; have HF7 := Lib.hid (fin.out _ _ hgrow7 hown7); simp at z0 z2; clear hown7 hgrow7))
        go_meet
        exact HF7.out
  case rest =>
    have HPSA := hcut
    clear hcut
    obtain ⟨g3, hg3⟩ : ∃ g, (g2 && ok3) = g := ⟨_, rfl⟩
    rw [hg3] at HPSA HPR HGD
    obtain ⟨e3, he3⟩ : ∃ e, -(bs.length : Int) = e := ⟨_, rfl⟩
    have he3b : -1000000000000 ≤ e3 ∧ e3 ≤ 0 := by have := HLM.out; omega
    rw [he3] at HPSA HPR
    obtain ⟨q3, hq3⟩ : ∃ q, (skipL (inL [101]) l3).1 = q := ⟨_, rfl⟩
    obtain ⟨t3, ht3⟩ : ∃ q, (skipL (inL [101]) l3).2 = q := ⟨_, rfl⟩
    have ht3n := skip_len (inL [101]) l3
    obtain ⟨S3, hS3⟩ : ∃ S : ByteArray, ⟨q3.toArray⟩ = S := ⟨_, rfl⟩
    obtain ⟨n3, hn3⟩ : ∃ n, q3.isEmpty = n := ⟨_, rfl⟩
    have hse3 : S3.toList.isEmpty = n3 := by rw [ByteArray.toList_eq, ← hS3]; exact hn3
    have hln3 : l3.length ≤ l.length := by have := HLP.out; omega
    have HS3 : Hid (Calls Tryz.prog 95 #[.pointer (some ⟨W.heap.size, 0, none⟩), .string ⟨#[101]⟩] wc fun en w2 => en = .returned (.string S3) ∧ Sc W.heap.size t3 g3 w2 ∧ Kb W.heap.size wc w2) := by
      have h := HSK.out [101] l3 g3 wc HPSA.out.sc hln3
      rw [hq3, ht3, hS3] at h
      exact h
    rw [ht3] at ht3n
    have HQ3 := Lib.hid (And.intro hq3 (And.intro ht3 hn3))
    have HE3 := Lib.hid he3
    clear hq3 ht3 hn3 hg3 he3
    go_upto_if 37 with (first
      | (go_at_call 95; (with_reducible refine (HS3.out).mono ?_); rintro en w8 ⟨rfl, hsc, hkb⟩; have HPSB := Lib.hid (HPSA.out.kb HPB.out hsc hkb); clear hsc hkb))
    go_cut [] from 37 to 43 (fun wx => Hid (Ps w W.heap.size w2.heap.size w.heap.size W3.heap.size l4 (g3 && ok4) neg (ds ++ bs) (e3 + x4) wx))
    case first =>
      cases n3 with
      | true =>
        go_wp2_with fail
        go_meet
        have h1 := HEE.out
        unfold eeL at h1
        rw [HQ3.out.1, HQ3.out.2.2, if_pos rfl] at h1
        cases h1
        have h2 : t3 = l3 := by rw [← HQ3.out.2.1]; exact skip_same (by rw [HQ3.out.1]; exact HQ3.out.2.2)
        have h3 := HPSB.out
        rw [h2] at h3
        rw [Bool.and_true, Int.add_zero]
        exact h3
      | false =>
        have h1 := HEE.out
        unfold eeL at h1
        rw [HQ3.out.1, HQ3.out.2.2, if_neg (by decide), HQ3.out.2.1] at h1
        have e1 := congrArg Prod.fst h1
        have e2 := congrArg (fun x => x.2.1) h1
        have e3' := congrArg (fun x => x.2.2) h1
        dsimp only at e1 e2 e3'
        have HXP := Lib.hid (fun (w' : World) (hs : Sc W.heap.size t3 g3 w') => exponent_c W.heap.size t3 g3 w' hs (sc_lt hs) (by have := HLL.out; omega))
        rw [e2, e3', e1] at HXP
        have hxb : -100000 ≤ x4 ∧ x4 ≤ 100000 := by
          rw [← e1]
          unfold expV
          have := expo_le (esL t3)
          split <;> omega
        obtain ⟨hxb1, hxb2⟩ := hxb
        obtain ⟨heb1, heb2⟩ := he3b
        obtain ⟨v0, ha0, -⟩ := HPSB.out.am
        have y2 := cell_of_heap ha0 2
        simp at y2
        have hwr : IntKind.i64.wrap (e3 + x4) = e3 + x4 := IntWalk.i64_in _ (by omega)
        clear e1 e2 e3' h1 ha0
        go_upto_region 8 with fail
        go_region_with (first
          | (go_at_call 97; (with_reducible refine (HXP.out _ (by first | exact HPSB.out.sc | exact HPSB.out.drew.sc)).mono ?_); rintro en w9 ⟨rfl, hsc, hkb⟩; have HPSC : Hid (Ps w W.heap.size w2.heap.size w.heap.size W3.heap.size l4 (g3 && ok4) neg (ds ++ bs) e3 w9) := (by first | exact HPSB.out.kb HPB.out hsc hkb | exact HPSB.out.drew.kb HPB.out hsc hkb); obtain ⟨v9, ha9, -⟩ := HPSC.out.am; have z2 := cell_of_heap ha9 2; have z3 := free_of_heap ha9 2; simp at z2; clear hsc hkb ha9))
        all_goals
          go_wp2_with fail
          go_meet
          exact HPSC.out.putE HPB.out _
    case rest =>
      have HPSD := hcut
      clear hcut
      obtain ⟨g4, hg4⟩ : ∃ g, (g3 && ok4) = g := ⟨_, rfl⟩
      rw [hg4] at HPSD HPR HGD
      obtain ⟨S4, hS4⟩ : ∃ S : ByteArray, ⟨l4.toArray⟩ = S := ⟨_, rfl⟩
      have s0 : wc.cell? ⟨W.heap.size, 0, none⟩ = some (.string S4) := by rw [← hS4]; exact cell_of_heap HPSD.out.sc 0
      have s1 : wc.cell? ⟨W.heap.size, 1, none⟩ = some (.bool g4) := cell_of_heap HPSD.out.sc 1
      have FIN := fin2 HPSD.out.res (Nat.le_refl _) HPSD.out.bel
      have BOX := box2 HPSD.out.res
      have hse4 : S4.toList.isEmpty = l4.isEmpty := by rw [ByteArray.toList_eq, ← hS4]
      clear hg4 hS4
      by_cases hok : g4 = true ∧ l4 = []
      · obtain ⟨rfl, rfl⟩ := hok
        have hn80 := HGD.out rfl
        have HPR2 : Hid (parseR l = resR neg (rnd (vd (dvs (ds ++ bs))).toNat (e3 + x4))) := by show _ = _; rw [HPR.out, if_pos ⟨rfl, rfl⟩]
        obtain ⟨a, b, c, hf⟩ := res_form neg (rnd (vd (dvs (ds ++ bs))).toNat (e3 + x4))
        rw [hf] at HPR2
        obtain ⟨v0, ha0, ho0⟩ := HPSD.out.am
        obtain ⟨A0, c0, hv0, hc0, hm0, hr0, -⟩ := own_row ho0
        subst hv0
        have y0 := cell_of_heap ha0 0; have y1 := cell_of_heap ha0 1; have y2 := cell_of_heap ha0 2; have y3 := cell_of_heap ha0 3
        simp only [List.getElem?_toArray, List.getElem?_cons_zero, List.getElem?_cons_succ] at y0 y1 y2 y3
        have hdl : (dvs (ds ++ bs)).length ≤ 1000000 := by rw [dvs_len, List.length_append]; have := HLN.out; omega
        have hxb : -1000000000 ≤ e3 + x4 ∧ e3 + x4 ≤ 1000000000 := by
          have h1 := HEE.out
          have h2 : -100000 ≤ x4 ∧ x4 ≤ 100000 := by
            unfold eeL at h1
            split at h1
            · cases h1; omega
            · have e1 := congrArg Prod.fst h1
              dsimp only at e1
              rw [← e1]
              unfold expV
              have := expo_le (esL (skipL (inL [101]) l3).2)
              split <;> omega
          have := HE3.out
          have := HLN.out
          omega
        have HRD := Lib.hid (rounded_c neg A0 c0 (dvs (ds ++ bs)) (e3 + x4) false wc hr0 hc0 (by unfold maxLen at hm0; omega) HDI.out hdl hxb.1 hxb.2)
        rw [show withMore (dvs (ds ++ bs)) false = dvs (ds ++ bs) from rfl, show expMore (e3 + x4) false = e3 + x4 from rfl, hf] at HRD
        clear ha0 ho0 hc0 hm0 hr0 hf hdl hxb hn80
        go_wp2_with (first
          | (go_at_call 88; (with_reducible refine (HRD.out).mono ?_); rintro en w9 ⟨rfl, hbz⟩; obtain ⟨b0, b1, b2, b3⟩ := BOX.out _ hbz; have HB := Lib.hid hbz; clear hbz))
        obtain ⟨r0, r1, hbb⟩ := FIN.out _ a b HB.out
        refine bodyPost_ret (v := .tuple #[.agg #[.int .i64 a, .int .i64 b], .int .i64 c]) (by simp [results, Tryz.results28, go_sem, r0, r1]) rfl ?_
        rw [HPR2.out]
        exact ⟨rfl, hbb⟩
      · have HPR2 : Hid (parseR l = .tuple #[.agg #[.int .i64 0, .int .i64 0], .int .i64 7]) := by show _ = _; rw [HPR.out, if_neg hok]
        obtain ⟨b0, b1, b2, b3⟩ := BOX.out _ (Below.refl _ _)
        have hcase : g4 = false ∨ (g4 = true ∧ l4.isEmpty = false) := by
          cases g4 with
          | false => exact .inl rfl
          | true =>
            refine .inr ⟨rfl, ?_⟩
            cases l4 with
            | nil => exact absurd ⟨rfl, rfl⟩ hok
            | cons x t => rfl
        clear hok
        rcases hcase with rfl | ⟨rfl, hle⟩
        · go_wp2_with fail
          obtain ⟨r0, r1, hbb⟩ := FIN.out _ 0 0 (Below.refl _ _)
          refine bodyPost_ret (v := .tuple #[.agg #[.int .i64 0, .int .i64 0], .int .i64 7]) (by simp [results, Tryz.results28, go_sem, r0, r1]) rfl ?_
          rw [HPR2.out]
          exact ⟨rfl, hbb⟩
        · rw [hle] at hse4
          go_wp2_with fail
          obtain ⟨r0, r1, hbb⟩ := FIN.out _ 0 0 (Below.refl _ _)
          refine bodyPost_ret (v := .tuple #[.agg #[.int .i64 0, .int .i64 0], .int .i64 7]) (by simp [results, Tryz.results28, go_sem, r0, r1]) rfl ?_
          rw [HPR2.out]
          exact ⟨rfl, hbb⟩
end Go.Proofs.YtekbfommnmikbaaGreatDoor
/- Plain laws of the places of reals. -/
namespace Go.Proofs.YtekbfommnmikbaaGreatDoor
set_option linter.unusedVariables false
set_option linter.unusedSimpArgs false
open Go.RowKit Go.Shelf Go.Proofs

end Go.Proofs.YtekbfommnmikbaaGreatDoor
/- Package real: what Add, Sub, Mul and Div ask for: the exact results, rounded. -/
namespace Go.Proofs.YtekbfommnmikbaaGreatDoor
set_option linter.unusedVariables false
set_option linter.unusedSimpArgs false
open Go.RowKit Go.Shelf Go.Proofs
attribute [local go_sem ↓] Go.wp_at_zero Go.wp_at_succ

set_option maxHeartbeats 1000000 in
theorem divf_c (a b c d : Int) (w : World) : Calls Tryz.prog 120 #[.agg #[.int .i64 a, .int .i64 b], .agg #[.int .i64 c, .int .i64 d]] w fun en w' => en = .returned (.int .i64 (if c = 0 then 5 else 0)) ∧ Below w.heap.size w w' := by
  by_cases h : c = 0
  · rw [if_pos h]
    subst h
    go_enter Tryz.func120, Tryz.ntmps120
    go_wp2_with fail
    go_ret
    exact ⟨rfl, ((Below.refl _ _).alloc (Nat.le_refl _) _).alloc (by simp) _⟩
  · rw [if_neg h]
    have h' : (c == 0) = false := by simp [h]
    go_enter Tryz.func120, Tryz.ntmps120
    go_wp2_with fail
    go_ret
    exact ⟨rfl, ((Below.refl _ _).alloc (Nat.le_refl _) _).alloc (by simp) _⟩

theorem reals_two {w : World} {g : Nat} {a b c d : Int} {t : TypeId} (h : w.heap[g]? = some (.cells #[.int .i64 a, .int .i64 b, .int .i64 c, .int .i64 d] t (0, 0))) : Reals w (some ⟨g, 0, none⟩) [(a, b), (c, d)] := fun j hj => by
  refine ⟨_, rfl, ?_⟩
  rw [add_lit, add_lit, cell_of_heap h, cell_of_heap h]
  have : j = 0 ∨ j = 1 := by simp at hj; omega
  rcases this with rfl | rfl <;> exact ⟨rfl, rfl⟩

end Go.Proofs.YtekbfommnmikbaaGreatDoor
/- Package real: Add, Sub, Mul, Div. -/
namespace Go.Proofs.YtekbfommnmikbaaGreatDoor
set_option linter.unusedVariables false
set_option linter.unusedSimpArgs false
open Go.RowKit Go.Shelf Go.Proofs
attribute [local go_sem ↓] Go.wp_at_zero Go.wp_at_succ

/-- The quotient, rounded. -/
def quoV (xm xe ym ye : Int) : Option (Nat × Int) := rnd (vd (withMore (firsts (qitem xm.natAbs ym.natAbs) 14) (lastMore (qitem xm.natAbs ym.natAbs) 14))).toNat (expMore (xe - ye - 13) (lastMore (qitem xm.natAbs ym.natAbs) 14))
def quoR (xm xe ym ye : Int) : Value := resR (decide (xm < 0) != decide (ym < 0)) (quoV xm xe ym ye)

theorem quo_R (xm xe ym ye : Int) (w : World) (hx : RV xm.natAbs xe) (hy : RV ym.natAbs ye) (hy0 : ym ≠ 0) :
    Calls Tryz.prog 121 #[.agg #[.int .i64 xm, .int .i64 xe], .agg #[.int .i64 ym, .int .i64 ye]] w fun en w' => ∃ v, en = .returned v ∧ AmtR w' v (quoR xm xe ym ye) ∧ Below w.heap.size w w' := by
  refine (quotient_c xm xe ym ye w hx hy hy0).mono ?_
  rintro en w' ⟨v, rfl, ha, hb⟩
  have h1 := RV_abs hx
  have h2 := RV_abs hy
  have hM : xm.natAbs < 10 * ym.natAbs := by unfold RV at hx hy; omega
  exact ⟨v, rfl, ⟨_, _, _, _, ha, firsts_inR (qitem_dig (by omega) hM) 14, by rw [firsts_length]; omega, by omega, by omega, rfl⟩, hb⟩
theorem done_form (xm xe ym ye r : Int) (R : Value) (hR : ∃ a b c, R = .tuple #[.agg #[.int .i64 a, .int .i64 b], .int .i64 c]) : ∃ a b c, doneR xm xe ym ye r R = .tuple #[.agg #[.int .i64 a, .int .i64 b], .int .i64 c] := by
  unfold doneR
  split
  · split
    · exact hR
    · exact ⟨_, _, _, rfl⟩
  · exact ⟨_, _, _, rfl⟩

/-- What Div returns. -/
def divX (xm xe ym ye : Int) : Value := doneR xm xe ym ye (if ym = 0 then 5 else 0) (quoR xm xe ym ye)
set_option maxRecDepth 100000 in
set_option maxHeartbeats 2000000 in
theorem divX_c (xm xe ym ye : Int) (w : World) (hx0 : -9223372036854775808 ≤ xm) (hx1 : xm ≤ 9223372036854775807) (hy0 : -9223372036854775808 ≤ ym) (hy1 : ym ≤ 9223372036854775807) :
    Calls Tryz.prog 47 #[.agg #[.int .i64 xm, .int .i64 xe], .agg #[.int .i64 ym, .int .i64 ye]] w fun en w' => en = .returned (divX xm xe ym ye) ∧ Below w.heap.size w w' := by
  obtain ⟨W, hW, k0, k1, k2, hbel⟩ := bx3h w #[.int .i64 xm, .int .i64 xe] #[.int .i64 ym, .int .i64 ye] #[.int .i64 0, .int .i64 0] 23 23 23
  have HBEL := Lib.hid hbel
  have FIN := fin2 k2 (by omega) hbel
  have BOX := box2 k2
  have c00 := cell_of_heap k0 0; have c01 := cell_of_heap k0 1; have c10 := cell_of_heap k1 0; have c11 := cell_of_heap k1 1
  simp at c00 c01 c10 c11
  have HD := Lib.hid (fun w' => done_c 120 121 xm xe ym ye (if ym = 0 then 5 else 0) (quoR xm xe ym ye) w' hx0 hx1 hy0 hy1 (enters_of Tryz.func120 (by kernel_rfl) rfl) (enters_of Tryz.func121 (by kernel_rfl) rfl) (fun _ _ w2 => divf_c xm xe ym ye w2) (fun hx hy hr w2 => quo_R xm xe ym ye w2 hx hy (fun e => by rw [if_pos e] at hr; cases hr)) (res_form _ _))
  obtain ⟨a, b, c, hf⟩ : ∃ a b c, divX xm xe ym ye = .tuple #[.agg #[.int .i64 a, .int .i64 b], .int .i64 c] := done_form _ _ _ _ _ _ (res_form _ _)
  have hf' : doneR xm xe ym ye (if ym = 0 then 5 else 0) (quoR xm xe ym ye) = .tuple #[.agg #[.int .i64 a, .int .i64 b], .int .i64 c] := hf
  rw [hf'] at HD
  rw [hf]
  clear k0 k1 k2 hbel hx0 hx1 hy0 hy1 hf hf'
  go_enter Tryz.func47, Tryz.ntmps47
  go_wp2_with (first
    | (go_at_call 111; (with_reducible refine (HD.out _).mono ?_); rintro en w2 ⟨rfl, hbz⟩; obtain ⟨b0, b1, b2, b3⟩ := BOX.out _ hbz; have HB := Lib.hid hbz; clear hbz))
  obtain ⟨r0, r1, hbb⟩ := FIN.out _ a b HB.out
  refine bodyPost_ret (v := .tuple #[.agg #[.int .i64 a, .int .i64 b], .int .i64 c]) (by simp [results, Tryz.results47, go_sem, r0, r1]) rfl ?_
  exact ⟨rfl, hbb⟩
end Go.Proofs.YtekbfommnmikbaaGreatDoor
/- The sanity of the laws of package real: the values. -/
namespace Go.Proofs.YtekbfommnmikbaaGreatDoor
set_option linter.unusedVariables false
set_option linter.unusedSimpArgs false
open Go.RowKit Go.Shelf Go.Proofs Go.Sort
attribute [local go_sem ↓] Go.wp_at_zero Go.wp_at_succ
set_option maxRecDepth 100000

theorem san_sum : sumX [(100000000000, 39), (100000000000, -11), (-100000000000, 39)] = .tuple #[.agg #[.int .i64 100000000000, .int .i64 (-11)], .int .i64 0] := by
  have h1 : okL [(100000000000, 39), (100000000000, -11), (-100000000000, 39)] = true := by decide +kernel
  have h2 : sumV [(100000000000, 39), (100000000000, -11), (-100000000000, 39)] = 100000000000 * 10 ^ 211 := by decide +kernel
  have h3 : rnd (100000000000 * 10 ^ 211) (-222) = some (100000000000, -11) := by decide +kernel
  unfold sumX sumR
  rw [if_neg (by decide), if_pos h1, h2]
  rw [show ((100000000000 * 10 ^ 211 : Int)).natAbs = 100000000000 * 10 ^ 211 from by decide +kernel, h3, show decide ((100000000000 * 10 ^ 211 : Int) < 0) = false from by decide +kernel]
  rfl
theorem san_div : divX 200000000000 (-11) 300000000000 (-11) = .tuple #[.agg #[.int .i64 666666666667, .int .i64 (-12)], .int .i64 0] := by
  have h1 : RV (200000000000 : Int).natAbs (-11) ∧ RV (300000000000 : Int).natAbs (-11) := by decide +kernel
  have h2 : quoV 200000000000 (-11) 300000000000 (-11) = some (666666666667, -12) := by decide +kernel
  unfold divX doneR quoR
  rw [if_pos h1, if_pos (by decide), h2]
  rfl
theorem san_root : rootR 200000000000 (-11) = .tuple #[.agg #[.int .i64 141421356237, .int .i64 (-11)], .int .i64 0] := by
  have h1 : RV (200000000000 : Int).natAbs (-11) := by decide +kernel
  have h2 : rootV (200000000000 : Int).natAbs (-11) = some (141421356237, -11) := by decide +kernel
  unfold rootR
  rw [if_neg (fun h => h h1), if_neg (by decide), if_neg (by decide), h2]
  rfl
theorem san_round : roundR 125000000000 (-12) 2 = .tuple #[.agg #[.int .i64 120000000000, .int .i64 (-12)], .int .i64 0] := by
  have h1 : RV (125000000000 : Int).natAbs (-12) := by decide +kernel
  have h2 : rnd (rdiv (125000000000 : Int).natAbs (-2 - -12 : Int).toNat) (-2) = some (120000000000, -12) := by decide +kernel
  have h3 : ¬ (nd (125000000000 : Int).natAbs : Int) < -2 - -12 := by decide +kernel
  unfold roundR
  rw [if_neg (fun h => h h1), if_neg (by decide), if_neg (by decide), if_neg h3, h2]
  rfl
theorem san_steps : plR 100000000000 (-11) - plR 0 0 = 90000000000001 := by decide +kernel
theorem san_scale : scaleR 100000000000 (-11) 100 = .tuple #[.agg #[.int .i64 0, .int .i64 0], .int .i64 3] := by
  have h1 : RV (100000000000 : Int).natAbs (-11) := by decide +kernel
  have h2 : rnd (100000000000 : Int).natAbs (-11 + 100) = none := by decide +kernel
  unfold scaleR
  rw [if_neg (fun h => h h1), if_neg (by decide), h2]
  rfl
theorem san_print : printR (-250000000000) (-15) = .tuple #[.string ⟨#[45, 48, 46, 48, 48, 48, 50, 53]⟩, .int .i64 0] := by
  have h1 : RV (-250000000000 : Int).natAbs (-15) := by decide +kernel
  have h2 : printL (-250000000000) (-15) = [45, 48, 46, 48, 48, 48, 50, 53] := by decide +kernel
  unfold printR
  rw [if_neg (fun h => h h1), h2]
theorem san_parse : parseR [49, 50, 46, 53, 48] = .tuple #[.agg #[.int .i64 125000000000, .int .i64 (-10)], .int .i64 0] := by
  have h1 : pGood [49, 50, 46, 53, 48] = true ∧ (pEe [49, 50, 46, 53, 48]).2.2 = [] := by decide +kernel
  have h2 : pNeg [49, 50, 46, 53, 48] = false := by decide +kernel
  have h3 : rnd (vd (dvs (pDs [49, 50, 46, 53, 48] ++ (pDot [49, 50, 46, 53, 48]).1))).toNat (-((pDot [49, 50, 46, 53, 48]).1.length : Int) + (pEe [49, 50, 46, 53, 48]).1) = some (125000000000, -10) := by decide +kernel
  unfold parseR
  rw [if_pos h1, h2, h3]
  rfl

set_option maxHeartbeats 1000000 in
theorem smallR_c (d n : Int) (w : World) (hd : -9 ≤ d) (hd2 : d ≤ 9) (hn : -1000 ≤ n) (hn2 : n ≤ 1000) (h0 : d ≠ 0) :
    Calls Tryz.prog 61 #[.int .i64 d, .int .i64 n] w fun en w' => en = .returned (.agg #[.int .i64 (d * 100000000000), .int .i64 (n - 11)]) ∧ Below w.heap.size w w' := by
  obtain ⟨W, hW, k0, hbel⟩ := bx1h w #[.int .i64 0, .int .i64 0] 23
  have HBEL := Lib.hid hbel
  have FIN := fin2 k0 (Nat.le_refl _) hbel
  have BOX := box2 k0
  obtain ⟨b0, b1, b2, b3⟩ := BOX.out W (Below.refl _ _)
  clear k0 hbel
  go_enter Tryz.func61, Tryz.ntmps61
  go_wp2_with fail
  obtain ⟨r0, r1, hbb⟩ := FIN.out W (d * 100000000000) (n - 11) (Below.refl _ _)
  refine bodyPost_ret (v := .agg #[.int .i64 (d * 100000000000), .int .i64 (n - 11)]) (by simp [results, Tryz.results61, go_sem, r0, r1]) rfl ?_
  exact ⟨rfl, hbb⟩
end Go.Proofs.YtekbfommnmikbaaGreatDoor
/- The sanity of the laws of package real. -/
namespace Go.Proofs.YtekbfommnmikbaaGreatDoor
set_option linter.unusedVariables false
set_option linter.unusedSimpArgs false
open Go.RowKit Go.Shelf Go.Proofs Go.Sort
attribute [local go_sem ↓] Go.wp_at_zero Go.wp_at_succ

theorem reals_three {w : World} {g : Nat} {a b c d e f : Int} {t : TypeId} (h : w.heap[g]? = some (.cells #[.int .i64 a, .int .i64 b, .int .i64 c, .int .i64 d, .int .i64 e, .int .i64 f] t (0, 0))) : Reals w (some ⟨g, 0, none⟩) [(a, b), (c, d), (e, f)] := fun j hj => by
  refine ⟨_, rfl, ?_⟩
  rw [add_lit, add_lit, cell_of_heap h, cell_of_heap h]
  have : j = 0 ∨ j = 1 ∨ j = 2 := by simp at hj; omega
  rcases this with rfl | rfl | rfl <;> exact ⟨rfl, rfl⟩
theorem two_put {V w : World} {B : Nat} {x y : Value} {t : TypeId} (a b : Value) (h : w.heap[B]? = some (.cells #[x, y] t (0, 0))) (hb : Below V.heap.size V w) (hB : V.heap.size ≤ B) :
    ((w.setCell ⟨B, 0, none⟩ a).setCell ⟨B, 1, none⟩ b).heap[B]? = some (.cells #[a, b] t (0, 0)) ∧ Below V.heap.size V ((w.setCell ⟨B, 0, none⟩ a).setCell ⟨B, 1, none⟩ b) :=
  ⟨putB (putB h 0 a) 1 b, (hb.setCell (p := ⟨B, 0, none⟩) hB _).setCell (p := ⟨B, 1, none⟩) hB _⟩
theorem two_new {V w : World} {t : TypeId} (a b : Value) (hb : Below V.heap.size V w) :
    (w.alloc (.cells #[a, b] t)).heap[w.heap.size]? = some (.cells #[a, b] t (0, 0)) ∧ Below V.heap.size V (w.alloc (.cells #[a, b] t)) := ⟨heap_alloc_new _ _, belowA hb _⟩
theorem two_cells {w : World} {B : Nat} {x y : Value} {t : TypeId} {fz : Nat × Nat} (h : w.heap[B]? = some (.cells #[x, y] t fz)) : w.cell? ⟨B, 0, none⟩ = some x ∧ w.cell? ⟨B, 1, none⟩ = some y := ⟨cell_of_heap h 0, cell_of_heap h 1⟩
theorem nb2 (w : World) (a o : Obj) : ((w.alloc a).alloc o).heap[w.heap.size + 1]? = some o := heap_new' _ _ _ (by simp)
theorem nbd2 (w : World) (o : Obj) : ((w.alloc o).drew).heap[w.heap.size]? = some o := heap_alloc_new w o

set_option maxRecDepth 100000 in
set_option maxHeartbeats 8000000 in
theorem sanityR_c (w : World) (ht : P10 w) : Calls Tryz.prog 25 #[] w fun en w' => en = .returned (.bool true) ∧ Below w.heap.size w w' := by
  have HS1 := Lib.hid (fun w' => (show Calls Tryz.prog 61 #[.int .i64 1, .int .i64 0] w' fun en w2 => en = .returned (.agg #[.int .i64 100000000000, .int .i64 (-11)]) ∧ Below w'.heap.size w' w2 from smallR_c 1 0 w' (by decide) (by decide) (by decide) (by decide) (by decide)))
  have HS2 := Lib.hid (fun w' => (show Calls Tryz.prog 61 #[.int .i64 2, .int .i64 0] w' fun en w2 => en = .returned (.agg #[.int .i64 200000000000, .int .i64 (-11)]) ∧ Below w'.heap.size w' w2 from smallR_c 2 0 w' (by decide) (by decide) (by decide) (by decide) (by decide)))
  have HS3 := Lib.hid (fun w' => (show Calls Tryz.prog 61 #[.int .i64 1, .int .i64 50] w' fun en w2 => en = .returned (.agg #[.int .i64 100000000000, .int .i64 39]) ∧ Below w'.heap.size w' w2 from smallR_c 1 50 w' (by decide) (by decide) (by decide) (by decide) (by decide)))
  have HS4 := Lib.hid (fun w' => (show Calls Tryz.prog 61 #[.int .i64 (-1), .int .i64 50] w' fun en w2 => en = .returned (.agg #[.int .i64 (-100000000000), .int .i64 39]) ∧ Below w'.heap.size w' w2 from smallR_c (-1) 50 w' (by decide) (by decide) (by decide) (by decide) (by decide)))
  have HS5 := Lib.hid (fun w' => (show Calls Tryz.prog 61 #[.int .i64 3, .int .i64 0] w' fun en w2 => en = .returned (.agg #[.int .i64 300000000000, .int .i64 (-11)]) ∧ Below w'.heap.size w' w2 from smallR_c 3 0 w' (by decide) (by decide) (by decide) (by decide) (by decide)))
  have HSM := Lib.hid (fun (A : Option Addr) w' hr => (show Calls Tryz.prog 40 #[.slice A 3 3] w' fun en w2 => en = .returned (.tuple #[.agg #[.int .i64 100000000000, .int .i64 (-11)], .int .i64 0]) ∧ Below w'.heap.size w' w2 from by
    have h := sumX_c A 3 [(100000000000, 39), (100000000000, -11), (-100000000000, 39)] w' hr (by intro p hp; simp at hp; rcases hp with rfl | rfl | rfl <;> exact ⟨by decide, by decide⟩) (by decide)
    rw [san_sum] at h
    exact h))
  have HDV := Lib.hid (fun w' => (show Calls Tryz.prog 47 #[.agg #[.int .i64 200000000000, .int .i64 (-11)], .agg #[.int .i64 300000000000, .int .i64 (-11)]] w' fun en w2 => en = .returned (.tuple #[.agg #[.int .i64 666666666667, .int .i64 (-12)], .int .i64 0]) ∧ Below w'.heap.size w' w2 from by
    have h := divX_c 200000000000 (-11) 300000000000 (-11) w' (by decide) (by decide) (by decide) (by decide)
    rw [san_div] at h
    exact h))
  have HRT := Lib.hid (fun w' => (show Calls Tryz.prog 48 #[.agg #[.int .i64 200000000000, .int .i64 (-11)]] w' fun en w2 => en = .returned (.tuple #[.agg #[.int .i64 141421356237, .int .i64 (-11)], .int .i64 0]) ∧ Below w'.heap.size w' w2 from by
    have h := rootR_c 200000000000 (-11) w' (by decide) (by decide)
    rw [san_root] at h
    exact h))
  have HRN := Lib.hid (fun w' => (show Calls Tryz.prog 19 #[.agg #[.int .i64 125000000000, .int .i64 (-12)], .int .i64 2] w' fun en w2 => en = .returned (.tuple #[.agg #[.int .i64 120000000000, .int .i64 (-12)], .int .i64 0]) ∧ Below w'.heap.size w' w2 from by
    have h := roundR_c 125000000000 (-12) 2 w' (by decide) (by decide)
    rw [san_round] at h
    exact h))
  have HST := Lib.hid (fun w' => (show Calls Tryz.prog 57 #[.agg #[.int .i64 0, .int .i64 0], .agg #[.int .i64 100000000000, .int .i64 (-11)]] w' fun en w2 => en = .returned (.tuple #[.int .i64 90000000000001, .int .i64 0]) ∧ Below w'.heap.size w' w2 from by
    have h := steps_c 0 0 100000000000 (-11) w' (by decide) (by decide) (by decide) (by decide)
    rw [san_steps, if_pos (by decide +kernel)] at h
    exact h))
  have HSL := Lib.hid (fun w' => (show Calls Tryz.prog 18 #[.agg #[.int .i64 100000000000, .int .i64 (-11)], .int .i64 100] w' fun en w2 => en = .returned (.tuple #[.agg #[.int .i64 0, .int .i64 0], .int .i64 3]) ∧ Below w'.heap.size w' w2 from by
    have h := scaleR_c 100000000000 (-11) 100 w' (by decide) (by decide)
    rw [san_scale] at h
    exact h))
  have HPT := Lib.hid (fun w' (ht : P10 w') => (show Calls Tryz.prog 29 #[.agg #[.int .i64 (-250000000000), .int .i64 (-15)]] w' fun en w2 => en = .returned (.tuple #[.string ⟨#[45, 48, 46, 48, 48, 48, 50, 53]⟩, .int .i64 0]) ∧ Below w'.heap.size w' w2 from by
    have h := printR_ab (-250000000000) (-15) w' (by decide) (by decide) ht (by decide)
    rw [san_print] at h
    exact h))
  have HPS := Lib.hid (fun w' => (show Calls Tryz.prog 28 #[.string ⟨#[49, 50, 46, 53, 48]⟩] w' fun en w2 => en = .returned (.tuple #[.agg #[.int .i64 125000000000, .int .i64 (-10)], .int .i64 0]) ∧ Below w'.heap.size w' w2 from by
    have h := parseR_c [49, 50, 46, 53, 48] w' (by decide)
    rw [san_parse] at h
    exact h))
  have HP := Lib.hid ht
  go_enter Tryz.func25, Tryz.ntmps25
  go_upto_region 3 with (first
    | (go_at_call 61; (with_reducible refine (HS1.out _).mono ?_); rintro en w2 ⟨rfl, hbz⟩; have HB := Lib.hid hbz; clear hbz)
    | (go_at_call 61; (with_reducible refine (HS2.out _).mono ?_); rintro en w3 ⟨rfl, hbz⟩; have HX1 := Lib.hid (heapB hbz (heap_alloc_new _ _)); have HB := Lib.hid (belowT (belowA HB.out _) hbz); clear hbz))
  obtain ⟨V, hV⟩ : ∃ V, w3.alloc (.cells #[.int .i64 200000000000, .int .i64 (-11)] 23) = V := ⟨_, rfl⟩
  rw [hV]
  have HBV : Hid (Below w.heap.size w V) := by rw [← hV]; exact belowA HB.out _
  have HXV1 : Hid (V.heap[w2.heap.size]? = some (.cells #[.int .i64 100000000000, .int .i64 (-11)] 23 (0, 0))) := by rw [← hV]; exact heap_old _ HX1.out
  have HXV2 : Hid (V.heap[w3.heap.size]? = some (.cells #[.int .i64 200000000000, .int .i64 (-11)] 23 (0, 0))) := by rw [← hV]; exact heap_alloc_new _ _
  obtain ⟨P1, hP1⟩ : ∃ P, w2.heap.size = P := ⟨_, rfl⟩
  obtain ⟨P2, hP2⟩ : ∃ P, w3.heap.size = P := ⟨_, rfl⟩
  rw [hP1] at HXV1 ⊢
  rw [hP2] at HXV2 ⊢
  clear hV HX1 HB hP1 hP2
  go_cut [3, 4] from 16 to 23 (fun v3 v4 wx => ∃ g, v3 = .pointer (some ⟨g, 0, none⟩) ∧ v4 = .int .i64 0 ∧ Hid (wx.heap[g]? = some (.cells #[.int .i64 100000000000, .int .i64 (-11)] 23 (0, 0))) ∧ Hid (Below V.heap.size V wx))
  case first =>
    have HB : Hid (Below V.heap.size V V) := Below.refl _ _
    have hbx := True.intro
    have c00 := cell_of_heap HXV1.out 0; have c01 := cell_of_heap HXV1.out 1
    simp at c00 c01
    have C00 := Lib.hid c00; have C01 := Lib.hid c01
    have a00 := fun o => keep_cell ((Below.refl V.heap.size V).alloc (Nat.le_refl _) o) c00
    have a01 := fun o => keep_cell ((Below.refl V.heap.size V).alloc (Nat.le_refl _) o) c01
    go_region_with (first
      | (go_at_call 61; (with_reducible refine (HS3.out _).mono ?_); rintro en w5 ⟨rfl, hbz⟩; (first | (with_reducible have hbx := heapB hbz hbx) | (with_reducible have hbx := heapB hbz (heap_old _ hbx)) | (with_reducible have hbx := heapB hbz (nb2 _ _ (.cells #[.int .i64 0, .int .i64 0] 23))) | (with_reducible have hbx := heapB hbz (heap_alloc_new _ (.cells #[.int .i64 0, .int .i64 0] 23))) | (with_reducible have hbx := heapB hbz (nbd2 _ (.cells #[.int .i64 0, .int .i64 0] 23))) | (with_reducible have hbx := heapB hbz (heap_old _ (heap_alloc_new _ (.cells #[.int .i64 0, .int .i64 0] 23)))) | skip); (first | (with_reducible have HB := Lib.hid (belowT HB.out hbz)) | (with_reducible have HB := Lib.hid (belowT HB.out.drew hbz)) | (with_reducible have HB := Lib.hid (belowT (belowA HB.out _) hbz)) | (with_reducible have HB := Lib.hid (belowT (belowA HB.out _).drew hbz)) | (with_reducible have HB := Lib.hid (belowT (belowA (belowA HB.out _) _) hbz)) | (with_reducible have HB := Lib.hid (belowT (belowA (belowA HB.out _) _).drew hbz))); have a00 := fun o => keep_cell ((Below.refl _ _).alloc (Nat.le_refl _) o) (keep_cell HB.out C00.out); have a01 := fun o => keep_cell ((Below.refl _ _).alloc (Nat.le_refl _) o) (keep_cell HB.out C01.out); have c00 := keep_cell HB.out C00.out; have c01 := keep_cell HB.out C01.out; have hsz9 := HB.out.size; clear hbz)
      | (go_at_call 61; (with_reducible refine (HS4.out _).mono ?_); rintro en w6 ⟨rfl, hbz⟩; (first | (with_reducible have hbx := heapB hbz hbx) | (with_reducible have hbx := heapB hbz (heap_old _ hbx)) | (with_reducible have hbx := heapB hbz (nb2 _ _ (.cells #[.int .i64 0, .int .i64 0] 23))) | (with_reducible have hbx := heapB hbz (heap_alloc_new _ (.cells #[.int .i64 0, .int .i64 0] 23))) | (with_reducible have hbx := heapB hbz (nbd2 _ (.cells #[.int .i64 0, .int .i64 0] 23))) | (with_reducible have hbx := heapB hbz (heap_old _ (heap_alloc_new _ (.cells #[.int .i64 0, .int .i64 0] 23)))) | skip); (first | (with_reducible have HB := Lib.hid (belowT HB.out hbz)) | (with_reducible have HB := Lib.hid (belowT HB.out.drew hbz)) | (with_reducible have HB := Lib.hid (belowT (belowA HB.out _) hbz)) | (with_reducible have HB := Lib.hid (belowT (belowA HB.out _).drew hbz)) | (with_reducible have HB := Lib.hid (belowT (belowA (belowA HB.out _) _) hbz)) | (with_reducible have HB := Lib.hid (belowT (belowA (belowA HB.out _) _).drew hbz))); have a00 := fun o => keep_cell ((Below.refl _ _).alloc (Nat.le_refl _) o) (keep_cell HB.out C00.out); have a01 := fun o => keep_cell ((Below.refl _ _).alloc (Nat.le_refl _) o) (keep_cell HB.out C01.out); have c00 := keep_cell HB.out C00.out; have c01 := keep_cell HB.out C01.out; have hsz9 := HB.out.size; clear hbz)
      | (go_at_call 40; (with_reducible refine (HSM.out _ _ (by first | exact reals_three (heap_alloc_new _ _) | exact reals_three (nb2 _ _ _) | exact reals_three (heap_old _ (heap_alloc_new _ _)))).mono ?_); rintro en w7 ⟨rfl, hbz⟩; (first | (with_reducible have hbx := heapB hbz hbx) | (with_reducible have hbx := heapB hbz (heap_old _ hbx)) | (with_reducible have hbx := heapB hbz (nb2 _ _ (.cells #[.int .i64 0, .int .i64 0] 23))) | (with_reducible have hbx := heapB hbz (heap_alloc_new _ (.cells #[.int .i64 0, .int .i64 0] 23))) | (with_reducible have hbx := heapB hbz (nbd2 _ (.cells #[.int .i64 0, .int .i64 0] 23))) | (with_reducible have hbx := heapB hbz (heap_old _ (heap_alloc_new _ (.cells #[.int .i64 0, .int .i64 0] 23)))) | skip); (first | (with_reducible have HB := Lib.hid (belowT HB.out hbz)) | (with_reducible have HB := Lib.hid (belowT HB.out.drew hbz)) | (with_reducible have HB := Lib.hid (belowT (belowA HB.out _) hbz)) | (with_reducible have HB := Lib.hid (belowT (belowA HB.out _).drew hbz)) | (with_reducible have HB := Lib.hid (belowT (belowA (belowA HB.out _) _) hbz)) | (with_reducible have HB := Lib.hid (belowT (belowA (belowA HB.out _) _).drew hbz))); (first | (with_reducible (obtain ⟨y0, y1⟩ := two_cells hbx; have y2 := free_of_heap hbx 0; have y3 := free_of_heap hbx 1)) | skip); clear hbz))
    all_goals
      go_wp2_with fail
      go_meet
      (first
        | (obtain ⟨hp1, hp2⟩ := two_put (.int .i64 100000000000) (.int .i64 (-11)) hbx HB.out (by first | exact Nat.le_refl _ | omega); exact ⟨_, rfl, rfl, hp1, hp2⟩)
        | (obtain ⟨hp1, hp2⟩ := two_new (t := 23) (.int .i64 100000000000) (.int .i64 (-11)) HB.out; exact ⟨_, rfl, rfl, hp1, hp2⟩))
  case rest =>
    obtain ⟨P3, rfl, rfl, HX3, HB3⟩ := hcut
    have HXW1 := Lib.hid (heapB HB3.out HXV1.out)
    have HXW2 := Lib.hid (heapB HB3.out HXV2.out)
    have HBW := Lib.hid (belowT HBV.out HB3.out)
    clear HB3 HXV1 HXV2 HBV
    obtain ⟨U, hU⟩ : ∃ U, wc = U := ⟨_, rfl⟩
    rw [hU] at HX3 HXW1 HXW2 HBW ⊢
    clear hU
    go_upto_region 4 with fail
    go_cut [5, 6] from 24 to 29 (fun v3 v4 wx => ∃ g, v3 = .pointer (some ⟨g, 0, none⟩) ∧ v4 = .int .i64 0 ∧ Hid (wx.heap[g]? = some (.cells #[.int .i64 666666666667, .int .i64 (-12)] 23 (0, 0))) ∧ Hid (Below U.heap.size U wx))
    case first =>
      have HB : Hid (Below U.heap.size U U) := Below.refl _ _
      have hbx := True.intro
      have c00 := cell_of_heap HXW2.out 0; have c01 := cell_of_heap HXW2.out 1
      simp at c00 c01
      have C00 := Lib.hid c00; have C01 := Lib.hid c01
      have a00 := fun o => keep_cell ((Below.refl U.heap.size U).alloc (Nat.le_refl _) o) c00
      have a01 := fun o => keep_cell ((Below.refl U.heap.size U).alloc (Nat.le_refl _) o) c01
      go_region_with (first
        | (go_at_call 61; (with_reducible refine (HS5.out _).mono ?_); rintro en w8 ⟨rfl, hbz⟩; (first | (with_reducible have hbx := heapB hbz hbx) | (with_reducible have hbx := heapB hbz (heap_old _ hbx)) | (with_reducible have hbx := heapB hbz (nb2 _ _ (.cells #[.int .i64 0, .int .i64 0] 23))) | (with_reducible have hbx := heapB hbz (heap_alloc_new _ (.cells #[.int .i64 0, .int .i64 0] 23))) | (with_reducible have hbx := heapB hbz (nbd2 _ (.cells #[.int .i64 0, .int .i64 0] 23))) | (with_reducible have hbx := heapB hbz (heap_old _ (heap_alloc_new _ (.cells #[.int .i64 0, .int .i64 0] 23)))) | skip); (first | (with_reducible have HB := Lib.hid (belowT HB.out hbz)) | (with_reducible have HB := Lib.hid (belowT HB.out.drew hbz)) | (with_reducible have HB := Lib.hid (belowT (belowA HB.out _) hbz)) | (with_reducible have HB := Lib.hid (belowT (belowA HB.out _).drew hbz)) | (with_reducible have HB := Lib.hid (belowT (belowA (belowA HB.out _) _) hbz)) | (with_reducible have HB := Lib.hid (belowT (belowA (belowA HB.out _) _).drew hbz))); have a00 := fun o => keep_cell ((Below.refl _ _).alloc (Nat.le_refl _) o) (keep_cell HB.out C00.out); have a01 := fun o => keep_cell ((Below.refl _ _).alloc (Nat.le_refl _) o) (keep_cell HB.out C01.out); have c00 := keep_cell HB.out C00.out; have c01 := keep_cell HB.out C01.out; have hsz9 := HB.out.size; clear hbz)
        | (go_at_call 47; (with_reducible refine (HDV.out _).mono ?_); rintro en w9 ⟨rfl, hbz⟩; (first | (with_reducible have hbx := heapB hbz hbx) | (with_reducible have hbx := heapB hbz (heap_old _ hbx)) | (with_reducible have hbx := heapB hbz (nb2 _ _ (.cells #[.int .i64 0, .int .i64 0] 23))) | (with_reducible have hbx := heapB hbz (heap_alloc_new _ (.cells #[.int .i64 0, .int .i64 0] 23))) | (with_reducible have hbx := heapB hbz (nbd2 _ (.cells #[.int .i64 0, .int .i64 0] 23))) | (with_reducible have hbx := heapB hbz (heap_old _ (heap_alloc_new _ (.cells #[.int .i64 0, .int .i64 0] 23)))) | skip); (first | (with_reducible have HB := Lib.hid (belowT HB.out hbz)) | (with_reducible have HB := Lib.hid (belowT HB.out.drew hbz)) | (with_reducible have HB := Lib.hid (belowT (belowA HB.out _) hbz)) | (with_reducible have HB := Lib.hid (belowT (belowA HB.out _).drew hbz)) | (with_reducible have HB := Lib.hid (belowT (belowA (belowA HB.out _) _) hbz)) | (with_reducible have HB := Lib.hid (belowT (belowA (belowA HB.out _) _).drew hbz))); (first | (with_reducible (obtain ⟨y0, y1⟩ := two_cells hbx; have y2 := free_of_heap hbx 0; have y3 := free_of_heap hbx 1)) | skip); clear hbz))
      all_goals
        go_wp2_with fail
        go_meet
        (first
          | (obtain ⟨hp1, hp2⟩ := two_put (.int .i64 666666666667) (.int .i64 (-12)) hbx HB.out (by first | exact Nat.le_refl _ | omega); exact ⟨_, rfl, rfl, hp1, hp2⟩)
          | (obtain ⟨hp1, hp2⟩ := two_new (t := 23) (.int .i64 666666666667) (.int .i64 (-12)) HB.out; exact ⟨_, rfl, rfl, hp1, hp2⟩))
    case rest =>
      obtain ⟨P5, rfl, rfl, HX5, HB5⟩ := hcut
      have HX1 := Lib.hid (heapB HB5.out HXW1.out)
      have HX2 := Lib.hid (heapB HB5.out HXW2.out)
      have HX3 := Lib.hid (heapB HB5.out HX3.out)
      have HB := Lib.hid (belowT HBW.out HB5.out)
      have c20 := cell_of_heap HX2.out 0; have c21 := cell_of_heap HX2.out 1
      simp at c20 c21
      clear HXW1 HXW2 HBW HB5
      go_upto_region 7 with (first
        | (go_at_call 48; (with_reducible refine (HRT.out _).mono ?_); rintro en w10 ⟨rfl, hbz⟩; have HX1 := Lib.hid (heapB hbz HX1.out); have HX3 := Lib.hid (heapB hbz HX3.out); have HX5 := Lib.hid (heapB hbz HX5.out); have HB := Lib.hid (belowT HB.out hbz); clear hbz)
        | (go_at_call 19; (with_reducible refine (HRN.out _).mono ?_); rintro en w11 ⟨rfl, hbz⟩; have HX1 := Lib.hid (heapB hbz (heap_old _ HX1.out)); have HX3 := Lib.hid (heapB hbz (heap_old _ HX3.out)); have HX5 := Lib.hid (heapB hbz (heap_old _ HX5.out)); have HX7 := Lib.hid (heapB hbz (heap_alloc_new _ _)); have HB := Lib.hid (belowT (belowA HB.out _) hbz); clear hbz))
      obtain ⟨Z, hZ⟩ : ∃ Z, w11.alloc (.cells #[.int .i64 120000000000, .int .i64 (-12)] 23) = Z := ⟨_, rfl⟩
      rw [hZ]
      have HY1 : Hid (Z.heap[P1]? = some (.cells #[.int .i64 100000000000, .int .i64 (-11)] 23 (0, 0))) := by rw [← hZ]; exact heap_old _ HX1.out
      have HY3 : Hid (Z.heap[P3]? = some (.cells #[.int .i64 100000000000, .int .i64 (-11)] 23 (0, 0))) := by rw [← hZ]; exact heap_old _ HX3.out
      have HY5 : Hid (Z.heap[P5]? = some (.cells #[.int .i64 666666666667, .int .i64 (-12)] 23 (0, 0))) := by rw [← hZ]; exact heap_old _ HX5.out
      have HY7 : Hid (Z.heap[w10.heap.size]? = some (.cells #[.int .i64 141421356237, .int .i64 (-11)] 23 (0, 0))) := by rw [← hZ]; exact heap_old _ HX7.out
      have HY9 : Hid (Z.heap[w11.heap.size]? = some (.cells #[.int .i64 120000000000, .int .i64 (-12)] 23 (0, 0))) := by rw [← hZ]; exact heap_alloc_new _ _
      have HB : Hid (Below w.heap.size w Z) := by rw [← hZ]; exact belowA HB.out _
      obtain ⟨c10, c11⟩ := two_cells HY1.out
      obtain ⟨c30, c31⟩ := two_cells HY3.out
      obtain ⟨c50, c51⟩ := two_cells HY5.out
      obtain ⟨c70, c71⟩ := two_cells HY7.out
      obtain ⟨c90, c91⟩ := two_cells HY9.out
      clear hZ c20 c21 HX1 HX2 HX3 HX5 HX7 HY1 HY3 HY5 HY7 HY9
      go_wp2_with (first
        | (go_at_call 57; (with_reducible refine (HST.out _).mono ?_); rintro en w12 ⟨rfl, hbz⟩; have c10 := keep_cell hbz c10; have c11 := keep_cell hbz c11; have HB := Lib.hid (belowT HB.out hbz); clear hbz)
        | (go_at_call 18; (with_reducible refine (HSL.out _).mono ?_); rintro en w13 ⟨rfl, hbz⟩; have HB := Lib.hid (belowT HB.out hbz); clear hbz)
        | (go_at_call 29; (with_reducible refine (HPT.out _ (HP.out.below HB.out)).mono ?_); rintro en w14 ⟨rfl, hbz⟩; have HB := Lib.hid (belowT HB.out hbz); clear hbz)
        | (go_at_call 28; (with_reducible refine (HPS.out _).mono ?_); rintro en w15 ⟨rfl, hbz⟩; have HB := Lib.hid (belowT HB.out hbz); clear hbz))
      go_ret
      exact ⟨rfl, belowA HB.out _⟩
end Go.Proofs.YtekbfommnmikbaaGreatDoor
/- What the listed variables give the walks; the heap that start-up code leaves meets the condition. Reals are opened and shut. -/
namespace Go.Proofs.YtekbfommnmikbaaGreatDoor
set_option linter.unusedVariables false
set_option linter.unusedSimpArgs false
open Go.ChangeShapes Go.WideShapes Go.ChangeAt Go.WideMaps Go.WideElems Go.RowKit

theorem ownKnob_none : ownKnob Tryz.prog.godebug = none := by kernel_rfl

/-- One listed variable reads as it is listed. -/
def ReadsAs (P : Program) (w : World) (n : String) (d : DataW Unit) : Prop :=
  ∃ g t cs fuel p, P.globalNamed n = some g ∧ (P.globals[g]?).map (·.type) = some t ∧ w.var? P n = some cs ∧ DataW.trod (fun _ => ()) P w 0 (fun _ => true) false fuel t cs.toList = some (d, p)
theorem reads_listed {P : Program} {w : World} {n : String} {d : DataW Unit} : ∀ (l : List (String × DataW Unit)) (ps : List MemPlace), DataW.LaidVars P w l ps → (n, d) ∈ l → ReadsAs P w n d := by
  intro l
  induction l with
  | nil => intro ps _ hm; cases hm
  | cons x l ih =>
    intro ps h hm
    obtain ⟨g, t, cs, fuel, p, q, h1, h2, h3, h4, h5, _⟩ := h
    cases hm with
    | head => exact ⟨g, t, cs, fuel, p, h1, h2, h3, h4⟩
    | tail _ hm => exact ih q h5 hm

theorem tab_reads {P : Program} {w : World} {n : String} {k : IntKind} {zs : List Int} {t e : TypeId} {m : Nat} (h : ReadsAs P w n (Lib.tabData k zs))
    (hty : ((P.globalNamed n).bind fun g => (P.globals[g]?).map (·.type)) = some t) (ht : P.underlying t = some (.array m e)) (he : P.underlying e = some (.int k)) (hce : P.cellsOf e = 1) (hct : P.cellsOf t = m) : Lib.TabIs P w n k zs := by
  obtain ⟨g', t', cs, fuel, p, h1, h2, h3, h4⟩ := h
  rw [h1, Option.bind_some, h2] at hty
  obtain rfl := Option.some.inj hty
  unfold Lib.TabIs
  rw [h3, ← Lib.cells_of_tab ht he hce hct h4]

theorem iface_reads {P : Program} {w : World} {n nm : String} {d : DataW Unit} {t : TypeId} {ms : _} (h : ReadsAs P w n (.iface nm d))
    (hty : ((P.globalNamed n).bind fun g => (P.globals[g]?).map (·.type)) = some t) (ht : P.underlying t = some (.interface ms)) : ∃ tp p, w.var? P n = some #[.iface tp p] := by
  obtain ⟨g', t', cs, fuel, p, h1, h2, h3, h4⟩ := h
  rw [h1, Option.bind_some, h2] at hty
  obtain rfl := Option.some.inj hty
  obtain ⟨cs⟩ := cs
  cases fuel with
  | zero => simp [DataW.trod] at h4
  | succ fuel =>
    simp only [DataW.trod, ht] at h4
    split at h4
    all_goals first
      | (exfalso; rename_i e _; cases e; done)
      | (exfalso; rename_i e; cases e; done)
      | (exfalso; contradiction)
      | (exfalso; cases h4; done)
      | exact ⟨_, _, h3⟩
      | (exfalso; simp_all; done)

theorem cells_int : Tryz.prog.cellsOf 3 = 1 := by kernel_rfl
theorem cells_real : Tryz.prog.cellsOf 23 = 2 := by kernel_rfl
set_option maxRecDepth 100000 in
/-- A real by value: its two ints. -/
theorem open_real {H : Type} {enc : TypeId × Value → H} {w w2 : World} {r : _} {base b2 : Nat} {sp : Nat → Bool} {held : Bool} {v : Value} {d : DataW H} {p : List MemPlace} (hok : Value.okWide Tryz.prog w r base 23 v) (h : DataW.Trod enc Tryz.prog w2 b2 sp held 23 v d p) :
    ∃ a b : Int, v = .agg #[.int .i64 a, .int .i64 b] ∧ d = .agg [.lit (.int .i64 a), .lit (.int .i64 b)] ∧ p = [] ∧ (Lit.wf (.int .i64 a) = true) ∧ (Lit.wf (.int .i64 b) = true) := by
  obtain ⟨cs, rfl, hsz⟩ := okWide_struct Tryz.underlying23 hok
  rw [cells_real] at hsz
  obtain ⟨l⟩ := cs
  match l, hsz with
  | [c0, c1], _ =>
  obtain ⟨fuel, hf⟩ := h
  obtain ⟨y0, y1, m, hx, _, hy0, hy1⟩ := trod_struct2 Tryz.underlying23 hf
  obtain ⟨a, e0, rfl, wa⟩ := DataW.trod_int Tryz.underlying3 hy0
  obtain ⟨b, e1, rfl, wb⟩ := DataW.trod_int Tryz.underlying3 hy1
  simp [Value.cells, cells_int] at e0 e1
  subst e0 e1
  simp only [Prod.mk.injEq] at hx
  obtain ⟨rfl, rfl⟩ := hx
  exact ⟨a, b, rfl, rfl, rfl, wa, wb⟩
set_option maxRecDepth 100000 in
theorem shut_real {H : Type} {enc : TypeId × Value → H} {w : World} {base : Nat} {sp : Nat → Bool} {held : Bool} {a b : Int} (wa : Lit.wf (.int .i64 a) = true) (wb : Lit.wf (.int .i64 b) = true) :
    DataW.Trod enc Tryz.prog w base sp held 23 (.agg #[.int .i64 a, .int .i64 b]) (.agg [.lit (.int .i64 a), .lit (.int .i64 b)]) [] := ⟨2, by
  have f0 : DataW.trod enc Tryz.prog w base sp held 1 3 [.int .i64 a] = some (.lit (.int .i64 a), []) := by simp [DataW.trod, Tryz.underlying3, wa]
  have f1 : DataW.trod enc Tryz.prog w base sp held 1 3 [.int .i64 b] = some (.lit (.int .i64 b), []) := by simp [DataW.trod, Tryz.underlying3, wb]
  have := trod_struct2_mk (enc := enc) (w := w) (base := base) (spare := sp) (held := held) (n := 1) (cs := [.int .i64 a, .int .i64 b]) Tryz.underlying23 (by simp [cells_real]) (by simpa [cells_int] using f0) (by simpa [cells_int] using f1)
  simpa [Value.cells] using this⟩
end Go.Proofs.YtekbfommnmikbaaGreatDoor
