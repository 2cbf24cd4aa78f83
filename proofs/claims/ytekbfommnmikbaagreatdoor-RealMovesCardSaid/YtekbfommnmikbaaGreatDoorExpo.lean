/- Package real: the scanner: exponent. -/
import Derived.Test.YtekbfommnmikbaaGreatDoorScan
namespace Go.Proofs.YtekbfommnmikbaaGreatDoor
set_option linter.unusedVariables false
set_option linter.unusedSimpArgs false
open Go.RowKit Go.Shelf Go.Proofs Go.Sort
attribute [local go_sem ↓] Go.wp_at_zero Go.wp_at_succ

/-- A sign. -/
def sgnL : List UInt8 := [43, 45]
theorem inL_sgn (b : UInt8) : inL sgnL b = (b == 43 || b == 45) := by
  have : ∀ b : Fin 256, inL sgnL (UInt8.ofNat b) = (UInt8.ofNat b == 43 || UInt8.ofNat b == 45) := by decide +kernel
  have h := this ⟨b.toNat, b.toNat_lt⟩
  simpa using h
theorem mem_tw {p : UInt8 → Bool} {b : UInt8} : ∀ {l : List UInt8}, b ∈ l.takeWhile p → p b = true
  | [], h => by cases h
  | a :: l, h => by
    rw [List.takeWhile_cons] at h
    split at h
    · rename_i ha
      rcases List.mem_cons.1 h with rfl | h
      · exact ha
      · exact mem_tw h
    · cases h
theorem skip_congr {f g : UInt8 → Bool} (h : ∀ b, f b = g b) : skipL f = skipL g := by rw [show f = g from funext h]
theorem expo_le (l : List UInt8) : expo l ≤ 100000 := by
  have key : ∀ (l : List UInt8) (n : Nat), n ≤ 100000 → l.foldl (fun n b => min 100000 (10 * n + (b.toNat - 48))) n ≤ 100000 := by
    intro l
    induction l with
    | nil => intro n hn; exact hn
    | cons b l ih => intro n hn; rw [List.foldl_cons]; exact ih _ (Nat.min_le_left _ _)
  exact key l 0 (by decide)
theorem expo_snoc (l : List UInt8) (b : UInt8) : expo (l ++ [b]) = min 100000 (10 * expo l + (b.toNat - 48)) := by unfold expo; rw [List.foldl_append]; rfl

/-- What the sign says. -/
def dnL (l : List UInt8) : Bool := (skipL (inL sgnL) l).1 == [45]
def esL (l : List UInt8) : List UInt8 := (skipL (inL sgnL) l).2.takeWhile isD
def erL (l : List UInt8) : List UInt8 := (skipL (inL sgnL) l).2.dropWhile isD
def expV (l : List UInt8) : Int := if dnL l then -(expo (esL l) : Int) else (expo (esL l) : Int)

theorem skip_len (f : UInt8 → Bool) (l : List UInt8) : (skipL f l).2.length ≤ l.length := by
  cases l with
  | nil => exact Nat.le_refl _
  | cons b t =>
    show (if f b = true then ([b], t) else ([], b :: t)).2.length ≤ _
    split
    · show t.length ≤ _; rw [List.length_cons]; omega
    · exact Nat.le_refl _

set_option maxRecDepth 100000 in
set_option maxHeartbeats 4000000 in
theorem exponent_c (B : Nat) (l : List UInt8) (g : Bool) (w : World) (h : Sc B l g w) (hB : B < w.heap.size) (hl : l.length ≤ 1000000000000) :
    Calls Tryz.prog 97 #[.pointer (some ⟨B, 0, none⟩)] w fun en w' => en = .returned (.int .i64 (expV l)) ∧ Sc B (erL l) (g && !(esL l).isEmpty) w' ∧ Kb B w w' := by
  have HH := Lib.hid h
  have HS1 := Lib.hid (show Calls Tryz.prog 95 #[.pointer (some ⟨B, 0, none⟩), .string ⟨#[43, 45]⟩] w fun en w2 => en = .returned (.string ⟨(skipL (inL sgnL) l).1.toArray⟩) ∧ Sc B (skipL (inL sgnL) l).2 g w2 ∧ Kb B w w2 from skip_c B l sgnL g w h hl)
  have hr2 := skip_len (inL sgnL) l
  have hcase : ((skipL (inL sgnL) l).1 = [] ∧ dnL l = false) ∨ ((skipL (inL sgnL) l).1 = [43] ∧ dnL l = false) ∨ ((skipL (inL sgnL) l).1 = [45] ∧ dnL l = true) := by
    unfold dnL
    cases l with
    | nil => exact .inl ⟨rfl, rfl⟩
    | cons b t =>
      rw [show skipL (inL sgnL) (b :: t) = (if inL sgnL b = true then ([b], t) else ([], b :: t)) from rfl, inL_sgn]
      by_cases h1 : b = 43
      · subst h1; exact .inr (.inl ⟨rfl, rfl⟩)
      by_cases h2 : b = 45
      · subst h2; exact .inr (.inr ⟨rfl, rfl⟩)
      rw [if_neg (by simp [h1, h2])]
      exact .inl ⟨rfl, rfl⟩
  obtain ⟨dn, hdn⟩ : ∃ dn, dnL l = dn := ⟨_, rfl⟩
  have HEV : Hid (expV l = if dn then -(expo (esL l) : Int) else (expo (esL l) : Int)) := by show _ = _; unfold expV; rw [hdn]
  have HES : Hid (esL l = (skipL (inL sgnL) l).2.takeWhile isD) := rfl
  have HER : Hid (erL l = (skipL (inL sgnL) l).2.dropWhile isD) := rfl
  obtain ⟨r2, hr2e⟩ : ∃ r2, (skipL (inL sgnL) l).2 = r2 := ⟨_, rfl⟩
  obtain ⟨q2, hq2e⟩ : ∃ q2, (skipL (inL sgnL) l).1 = q2 := ⟨_, rfl⟩
  rw [hr2e, hq2e] at HS1
  rw [hr2e] at hr2 HES HER
  rw [hdn, hq2e] at hcase
  obtain ⟨es, hes⟩ : ∃ es, esL l = es := ⟨_, rfl⟩
  obtain ⟨rr, hrr⟩ : ∃ rr, erL l = rr := ⟨_, rfl⟩
  obtain ⟨ev, hev⟩ : ∃ ev, expV l = ev := ⟨_, rfl⟩
  rw [hes, hev] at HEV
  rw [hes] at HES ⊢
  rw [hrr] at HER ⊢
  rw [hev]
  have hesl : es.length ≤ 1000000000000 := by
    have h1 : es.length ≤ r2.length := by rw [HES.out]; exact (List.takeWhile_sublist _).length_le
    omega
  have HDG := Lib.hid (fun (w' : World) (hs : Sc B r2 g w') (hb : B < w'.heap.size) => digits_c B r2 g w' hs hb (by omega))
  rw [← HES.out, ← HER.out] at HDG
  clear h hr2e hq2e hdn hes hrr hev
  go_enter Tryz.func97, Tryz.ntmps97
  go_upto_region 1 with fail
  go_cut [3] from 7 to 9 (fun v wx => v = .bool dn ∧ Hid (Sc B r2 g wx) ∧ Hid (Kb B w wx))
  case first =>
    rcases hcase with ⟨rfl, rfl⟩ | ⟨rfl, rfl⟩ | ⟨rfl, rfl⟩
    all_goals
      go_wp2_with (go_at_call 95; (with_reducible refine (HS1.out).mono ?_); rintro en w2 ⟨rfl, hsc, hkb⟩; have HSC2 := Lib.hid hsc; have HKB2 := Lib.hid hkb; clear hsc hkb)
      go_meet
      exact ⟨rfl, HSC2.out, HKB2.out⟩
  case rest =>
    obtain ⟨rfl, HSC, HKB⟩ := hcut
    have hBc : B < wc.heap.size := by have := HKB.out.size; omega
    have HD := Lib.hid (HDG.out wc HSC.out hBc)
    clear HDG hcase HS1
    go_upto_region 4 with (first
      | (go_at_call 96; (with_reducible refine (HD.out).mono ?_); rintro en w3 ⟨v, rfl, ho9, hsc, hkb⟩; obtain ⟨A9, c9, rfl, hc9, hm9, hr9, hf9⟩ := own_row ho9; have HSC3 := Lib.hid hsc; have HKB3 := Lib.hid (HKB.out.trans hkb); have HR9 := Lib.hid hr9; clear hsc hkb hr9 hf9 ho9))
    have hdl : (dvs es).length = es.length := by unfold dvs; rw [List.length_map]
    obtain ⟨L, hL⟩ : ∃ L, (dvs es).length = L := ⟨_, rfl⟩
    rw [hL] at hdl hc9
    rw [hL]
    have HL := Lib.hid hL
    clear hL
    go_loopg [4, 13] L (fun gg nv iv wr => ∃ (k : Nat), iv = .int .i64 (k : Int) ∧ k + gg = L ∧ nv = .int .i64 ((expo (es.take k) : Nat) : Int) ∧ wr = w3)
    case atStart => exact ⟨0, rfl, Nat.zero_add _, rfl, rfl⟩
    case round =>
      obtain ⟨k, rfl, hk, rfl, rfl⟩ := hrel
      have HK := Lib.hid hk
      have he1 := expo_le (es.take k)
      by_cases hkL : k < L
      · have hkl : k < (dvs es).length := by rw [HL.out]; exact hkL
        have hke : k < es.length := by omega
        obtain ⟨a9, rfl, hcell⟩ := HR9.out k hkl
        obtain ⟨b, hb⟩ : ∃ b, es[k]'hke = b := ⟨_, rfl⟩
        have hbd : isD b = true := by
          have h1 : b ∈ es := by rw [← hb]; exact List.getElem_mem _
          rw [HES.out] at h1
          exact mem_tw h1
        have hv : (dvs es)[k]?.getD 0 = (b.toNat : Int) - 48 := by
          unfold dvs
          rw [List.getElem?_map, List.getElem?_eq_getElem hke, hb]; rfl
        obtain ⟨v0, v1⟩ := isD_val hbd
        have ht : es.take (k + 1) = es.take k ++ [b] := by rw [List.take_add_one, List.getElem?_eq_getElem hke, hb]; rfl
        have hsn := expo_snoc (es.take k) b
        rw [← ht] at hsn
        rw [hv] at hcell
        obtain ⟨x, hx⟩ : ∃ x, (b.toNat : Int) - 48 = x := ⟨_, rfl⟩
        rw [hx] at hcell v0 v1
        obtain ⟨N, hN⟩ : ∃ N, expo (es.take k) = N := ⟨_, rfl⟩
        obtain ⟨N1, hN1⟩ : ∃ N, expo (es.take (k + 1)) = N := ⟨_, rfl⟩
        rw [hN] at he1 hsn
        rw [hN1] at hsn
        have hmn : min 100000 (10 * (N : Int) + x) = (N1 : Int) := by omega
        have hwr : IntKind.i64.wrap x = x := IntWalk.i64_in _ (by omega)
        have HN1 := Lib.hid hN1
        clear hx hv ht hb hbd hk hkl hke hsn hN1
        go_wp2_with fail
        go_roundg (gk - 1)
        case measure => have := HK.out; omega
        case rel => exact ⟨k + 1, by go_num, by have := HK.out; omega, by rw [HN1.out], rfl⟩
      · obtain rfl : k = L := by omega
        have htl : es.take k = es := List.take_of_length_le (by omega)
        rw [htl] at he1 ⊢
        obtain ⟨N, hN⟩ : ∃ N, expo es = N := ⟨_, rfl⟩
        rw [hN] at HEV he1 ⊢
        clear hk htl hkL
        cases dn with
        | true =>
          go_wp2_with fail
          go_ret
          rw [HEV.out]
          exact ⟨rfl, HSC3.out, HKB3.out⟩
        | false =>
          go_wp2_with fail
          go_ret
          rw [HEV.out]
          exact ⟨rfl, HSC3.out, HKB3.out⟩
end Go.Proofs.YtekbfommnmikbaaGreatDoor
