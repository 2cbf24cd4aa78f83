/- Texts of this claim, merged: R2, Rnd, Amt, RealA, RealB. -/
import Derived.Test.YtekbfommnmikbaaGreatDoorU1
import Derived.Lib.AppendIntMem
import Derived.WalkSmall
import Derived.Test.YtekbfommnmikbaaGreatDoorShelf
import Derived.Test.YtekbfommnmikbaaGreatDoorShelfB
import Derived.Laws.IdiomStrings
/- Texts of magnitudes; integers: sums. -/
namespace Go.Proofs.YtekbfommnmikbaaGreatDoor
set_option linter.unusedVariables false
set_option linter.unusedSimpArgs false
open Go.RowKit Go.Shelf Go.Proofs

set_option maxHeartbeats 1000000 in
set_option maxRecDepth 100000 in
theorem copyUsed_c (b : Nat) (w : World) (h0 : w.cell? ⟨b, 0, none⟩ = some (.pointer (some ⟨b, 0, none⟩))) :
    Calls Tryz.prog 212 #[.pointer (some ⟨b, 0, none⟩)] w fun e w' => e = .returned (.tuple #[]) ∧ w' = w := by
  obtain ⟨j, hj, _⟩ := Option.map_eq_some_iff.1 (show (Tryz.prog.info? 166).map (·.size) = some 2 by kernel_rfl)
  have HJ := Lib.hid hj
  clear hj
  go_enter Tryz.func212, Tryz.ntmps212
  go_wp2
  rw [Lib.run_neq_ptr_same w _ Tryz.underlying164 HJ.out]
  go_wp2
  go_end0
  exact ⟨rfl, rfl⟩

set_option maxHeartbeats 1000000 in
set_option maxRecDepth 100000 in
theorem copyFresh_c (b : Nat) (w : World) (h0 : w.cell? ⟨b, 0, none⟩ = some (.pointer none)) (hsh : w.shape? b = some (166, 2)) (hfz : w.frozen? ⟨b, 0, none⟩ = false) :
    Calls Tryz.prog 212 #[.pointer (some ⟨b, 0, none⟩)] w fun e w' => e = .returned (.tuple #[]) ∧ w' = w.setCell ⟨b, 0, none⟩ (.pointer (some ⟨b, 0, none⟩)) := by
  obtain ⟨j, hj, hjs⟩ := Option.map_eq_some_iff.1 (show (Tryz.prog.info? 166).map (·.size) = some 2 by kernel_rfl)
  have HJ := Lib.hid hj
  have HJS := Lib.hid hjs
  have HSH := Lib.hid hsh
  clear hj hjs hsh
  go_enter Tryz.func212, Tryz.ntmps212
  go_wp2
  rw [Lib.run_to_unsafe w ⟨b, 0, none⟩ Tryz.underlying164 Tryz.underlying234 HJ.out (by rw [HJS.out]; decide) HSH.out (Nat.zero_lt_succ 1)]
  simp only [Result.andThen]
  rw [Oper.upon_value]
  go_wp2
  rw [run_callFunc_extern Tryz.func234 (by kernel_rfl) (by kernel_rfl) (by kernel_rfl) (e := Extern.AbiNoEscape.same) (by kernel_rfl)]
  rw [Lib.run_noEscape]
  simp only [Result.andThen]
  rw [Oper.upon_value]
  go_wp2
  rw [Lib.run_from_unsafe w ⟨b, 0, none⟩ Tryz.underlying234 Tryz.underlying164 HJ.out HSH.out (by kernel_rfl)]
  simp only [Result.andThen]
  rw [Oper.upon_value]
  go_wp2
  go_end0
  exact ⟨rfl, rfl⟩

theorem copyCheck_c (B b : Nat) (bs : List Value) (w : World) (h : Lib.IsBuilder 166 5 B b bs w) :
    Calls Tryz.prog 212 #[.pointer (some ⟨b, 0, none⟩)] w fun e w' => e = .returned (.tuple #[]) ∧ (Lib.BuilderAt 166 5 B b (.pointer (some ⟨b, 0, none⟩)) bs w' ∧ Below B w w' ∧ Lib.OthersKept 5 (some b) w w') := by
  rcases h with h | h
  · refine (copyFresh_c b w h.cell0 h.shape h.frozen0).mono ?_
    rintro e w' ⟨rfl, rfl⟩
    exact ⟨rfl, h.used _, (Below.refl B w).setCell (p := ⟨b, 0, none⟩) h.1 _, (Lib.OthersKept.refl _ _ _).setCell ⟨b, 0, none⟩ rfl _⟩
  · refine (copyUsed_c b w h.cell0).mono ?_
    rintro e w' ⟨rfl, rfl⟩
    exact ⟨rfl, h, Below.refl B _, Lib.OthersKept.refl _ _ _⟩

theorem info_byte : (Tryz.prog.info? 5).map (fun i => (i.zero, i.size, i.bytes)) = some (some (.int .u8 0), 1, 1) := by kernel_rfl

set_option maxHeartbeats 2000000 in
set_option maxRecDepth 100000 in
theorem writeString_c (B b : Nat) (bs : List Value) (s : ByteArray) (w : World) (h : Lib.IsBuilder 166 5 B b bs w) (hlen : bs.length + s.size ≤ 140737488355328) (hBw : B ≤ w.heap.size) :
    Calls Tryz.prog 170 #[.pointer (some ⟨b, 0, none⟩), .string s] w fun e w' => e = .returned (.tuple #[.int .i64 s.size, .nilIface]) ∧ (Lib.BuilderAt 166 5 B b (.pointer (some ⟨b, 0, none⟩)) (bs ++ Lib.strCells s) w' ∧ Below B w w' ∧ Lib.OthersKept 5 (some b) w w') := by
  obtain ⟨i0, hi, hz0, hz1, hz2⟩ := info_parts info_byte
  have HI := Lib.hid (And.intro hi (And.intro hz0 (And.intro hz1 hz2)))
  have HH := Lib.hid h
  clear hi hz0 hz1 hz2 h
  go_enter Tryz.func170, Tryz.ntmps170
  go_wp2_with (go_at_call 212; refine (copyCheck_c B b bs _ HH.out).mono ?_)
  rintro e w1 ⟨rfl, h1, hb1, hok1⟩
  obtain ⟨hB, v, hbk, hown, hne⟩ := h1
  have c0 : w1.cell? ⟨b, 0, none⟩ = some (.pointer (some ⟨b, 0, none⟩)) := by rw [Lib.cell_of_heap hbk]; rfl
  have c1 : w1.cell? ⟨b, 1, none⟩ = some v := by rw [Lib.cell_of_heap hbk]; rfl
  have HOWN := Lib.hid hown
  clear hown
  go_wp2_with (at_builtin; refine Lib.wpList_append_own_string _ rfl _ _ 93 9 rfl B 5 i0 Tryz.underlying93 Tryz.underlying9 HI.out.1 HI.out.2.1 HI.out.2.2.1 HI.out.2.2.2 _ _ _ rfl HOWN.out s rfl ?c3 ?c4 ?c5 ?_)
  case c3 => unfold maxLen; omega
  case c4 => omega
  case c5 => have := hb1.size; omega
  intro v' w2 hown' hgrow _
  have hown := HOWN.out
  have hlt : b < w1.heap.size := by
    rcases Nat.lt_or_ge b w1.heap.size with h' | h'
    · exact h'
    · simp [Array.getElem?_eq_none h'] at hbk
  have hb2 : w2.heap[b]? = some (.cells #[.pointer (some ⟨b, 0, none⟩), v] 166 (0, 0)) := by
    rw [hgrow.block b hlt (fun e => hne e.symm)]
    exact hbk
  have d0 : w2.cell? ⟨b, 0, none⟩ = some (.pointer (some ⟨b, 0, none⟩)) := by rw [Lib.cell_of_heap hb2]; rfl
  have d1 : w2.cell? ⟨b, 1, none⟩ = some v := by rw [Lib.cell_of_heap hb2]; rfl
  have f1 : w2.frozen? ⟨b, 1, none⟩ = false := Lib.frozen_of_heap hb2 1
  obtain ⟨ao, n', cap, rfl⟩ : ∃ ao n' cap, v' = .slice ao n' cap := by
    rcases hown'.2 with ⟨hv, _⟩ | ⟨g, cap, cur, hv, _⟩
    · exact ⟨_, _, _, hv⟩
    · exact ⟨_, _, _, hv⟩
  have HB2 := Lib.hid hb2
  have HOWN' := Lib.hid hown'
  have HGR := Lib.hid hgrow
  have HBK := Lib.hid hbk
  clear hb2 hown' hgrow hbk hown
  go_wp2
  go_ret2
  refine ⟨rfl, ?_, ?_, ?_⟩
  · exact Lib.BuilderAt.put (T := 166) (e := 5) hB HB2.out (bs' := bs ++ Lib.strCells s) (by simpa [Lib.strCells_length] using HOWN'.out) (by decide)
  · exact (hb1.grown HGR.out (by have := hb1.size; omega) (fun k hk => (HOWN.out.lt k hk).1)).setCell (p := ⟨b, 1, none⟩) hB _
  · exact (hok1.grown HGR.out (fun g hg => by
      rcases HOWN.out.2 with ⟨rfl, _⟩ | ⟨g', cap', cur, rfl, _, hh, _⟩
      · cases hg
      · cases hg; exact ⟨_, _, hh⟩)).setCell ⟨b, 1, none⟩ rfl _

end Go.Proofs.YtekbfommnmikbaaGreatDoor

namespace Go.Proofs.YtekbfommnmikbaaGreatDoor
set_option linter.unusedVariables false
set_option linter.unusedSimpArgs false
open Go.RowKit Go.Shelf Go.Proofs
attribute [local go_sem] Oper.semAt_some

/-- k decimal digits, zeros ahead. -/
def pad : Nat → Nat → List UInt8
  | 0, _ => []
  | k + 1, d => pad k (d / 10) ++ [UInt8.ofNat (48 + d % 10)]

theorem pad_zero : ∀ k, pad k 0 = Lib.repeatL [48] k
  | 0 => rfl
  | k + 1 => by
    rw [pad, Nat.zero_div, pad_zero k, Lib.repeatL_add [48] k 1]
    rfl

theorem pad_eq : ∀ (k d : Nat), 0 < k → d < 10 ^ k → pad k d = Lib.repeatL [48] (k - (Lib.decDigits d).length) ++ Lib.decDigits d
  | 0, d, h, _ => absurd h (by omega)
  | k + 1, d, _, hd => by
    by_cases h : d < 10
    · rw [pad, Nat.div_eq_of_lt h, pad_zero, Lib.decDigits_one h, Nat.mod_eq_of_lt h]
      simp
    · have h1 : d / 10 < 10 ^ k := by rw [Nat.pow_succ] at hd; omega
      have hk : 0 < k := by
        rcases Nat.eq_zero_or_pos k with rfl | h'
        · simp at hd; omega
        · exact h'
      rw [pad, pad_eq k (d / 10) hk h1]
      conv => rhs; rw [Lib.decDigits, dif_neg h]
      rw [List.length_append, List.append_assoc]
      simp

theorem decDigits_shift : ∀ (k d v : Nat), 0 < v → d < 10 ^ k → Lib.decDigits (d + 10 ^ k * v) = Lib.decDigits v ++ pad k d
  | 0, d, v, _, hd => by
    obtain rfl : d = 0 := by simpa using hd
    simp [pad]
  | k + 1, d, v, hv, hd => by
    have hp : 1 ≤ 10 ^ k := Nat.one_le_pow _ _ (by decide)
    have h1 : 10 ^ k * 1 ≤ 10 ^ k * v := Nat.mul_le_mul_left _ hv
    have h2 : ¬ d + 10 ^ (k + 1) * v < 10 := by rw [Nat.pow_succ, Nat.mul_right_comm]; omega
    have e1 : (d + 10 ^ (k + 1) * v) / 10 = d / 10 + 10 ^ k * v := by rw [Nat.pow_succ, Nat.mul_right_comm]; omega
    have e2 : (d + 10 ^ (k + 1) * v) % 10 = d % 10 := by rw [Nat.pow_succ, Nat.mul_right_comm]; omega
    rw [Lib.decDigits, dif_neg h2, e1, e2, decDigits_shift k (d / 10) v hv (by rw [Nat.pow_succ] at hd; omega), pad, List.append_assoc]

/-- The text, when some parts have been written. -/
def sst (p : List Int) : List (Ix p.length) → List UInt8 :=
  List.foldl (fun acc x => acc ++ ((if x.1 + 1 < p.length then Lib.repeatL [48] (9 - (Lib.decDigits (p[x.1]?.getD 0).toNat).length) else []) ++ Lib.decDigits (p[x.1]?.getD 0).toNat)) []
theorem sst_snoc (p : List Int) (pre : List (Ix p.length)) (x : Ix p.length) : sst p (pre ++ [x]) = sst p pre ++ ((if x.1 + 1 < p.length then Lib.repeatL [48] (9 - (Lib.decDigits (p[x.1]?.getD 0).toNat).length) else []) ++ Lib.decDigits (p[x.1]?.getD 0).toNat) := by
  simp [sst]

theorem nDigits9 {d : Nat} (h : d < 1000000000) : (Lib.decDigits d).length ≤ 9 ∧ 1 ≤ (Lib.decDigits d).length := by
  rw [Lib.decDigits_length]
  refine ⟨?_, Lib.nDigits_pos d⟩
  rcases Nat.lt_or_ge 9 (Lib.nDigits d) with h' | h'
  · exfalso
    have key : ∀ k u, k < Lib.nDigits u → 0 < k → 10 ^ k ≤ u := by
      intro k
      induction k with
      | zero => intro u _ h; omega
      | succ k ih =>
        intro u h _
        by_cases hu : u < 10
        · rw [Lib.nDigits_small hu] at h; omega
        · rw [Lib.nDigits_big hu] at h
          rcases Nat.eq_zero_or_pos k with rfl | hk
          · simpa using (by omega : 10 ≤ u)
          · have := ih (u / 10) (by omega) hk
            rw [Nat.pow_succ]; omega
    have := key 9 d h' (by decide)
    simp at this; omega
  · exact h'

theorem sst_length {p : List Int} (hp : InR 1000000000 p) (pre : List (Ix p.length)) : (sst p pre).length ≤ 18 * pre.length := by
  have key : ∀ (l : List (Ix p.length)) (acc : List UInt8), (List.foldl (fun acc x => acc ++ ((if x.1 + 1 < p.length then Lib.repeatL [48] (9 - (Lib.decDigits (p[x.1]?.getD 0).toNat).length) else []) ++ Lib.decDigits (p[x.1]?.getD 0).toNat)) acc l).length ≤ acc.length + 18 * l.length := by
    intro l
    induction l with
    | nil => intro acc; simp
    | cons x l ih =>
      intro acc
      have b := hp.at_ (by decide) x.1
      rw [List.getD_eq_getElem?_getD] at b
      have h9 := nDigits9 (d := (p[x.1]?.getD 0).toNat) (by omega)
      refine Nat.le_trans (ih _) ?_
      dsimp only
      split
      · simp [Lib.repeatL_length]; omega
      · simp; omega
  have h := key pre []
  rw [List.length_nil, Nat.zero_add] at h
  exact h

theorem sst_dn {p : List Int} (hp : InR 1000000000 p) (ht : NoTop p) : ∀ k, k + 1 ≤ p.length →
    ∃ v : Nat, 0 < v ∧ val 1000000000 (p.drop (p.length - (k + 1))) = (v : Int) ∧ sst p (dn p.length (k + 1)) = Lib.decDigits v := by
  intro k
  induction k with
  | zero =>
    intro hk
    have b := hp.at_ (by decide) (p.length - 1)
    have t := last_of_noTop ht (p.length - 1) (by omega)
    obtain ⟨d, hd⟩ := Int.eq_ofNat_of_zero_le b.1
    refine ⟨d, by omega, ?_, ?_⟩
    · rw [val_drop _ _ _ (by omega), hd, show p.length - (0 + 1) + 1 = p.length by omega, List.drop_length]; simp [val]
    · rw [dn_succ p.length 0 (by omega), dn_zero, sst_snoc]
      have hdd : p[p.length - 1]?.getD 0 = (d : Int) := by rw [← List.getD_eq_getElem?_getD]; exact hd
      simp only [Nat.sub_zero, hdd, Int.toNat_natCast]
      rw [if_neg (by omega)]
      simp [sst]
  | succ k ih =>
    intro hk
    obtain ⟨v, h0, h1, h2⟩ := ih (by omega)
    obtain ⟨j, hj⟩ : ∃ j, j = p.length - (k + 1 + 1) := ⟨_, rfl⟩
    have ej : p.length - 1 - (k + 1) = j := by omega
    have b := hp.at_ (by decide) j
    obtain ⟨d, hd⟩ := Int.eq_ofNat_of_zero_le b.1
    have hdd : p[j]?.getD 0 = (d : Int) := by rw [← List.getD_eq_getElem?_getD]; exact hd
    refine ⟨d + 1000000000 * v, by omega, ?_, ?_⟩
    · rw [← hj, val_drop _ _ _ (by omega), show j + 1 = p.length - (k + 1) from by omega, h1, hd]
      simp
    · rw [dn_succ p.length (k + 1) (by omega), sst_snoc, h2]
      simp only [ej, hdd, Int.toNat_natCast]
      rw [if_pos (by omega), ← pad_eq 9 d (by decide) (by omega), ← decDigits_shift 9 d v h0 (by omega)]

theorem sst_all {p : List Int} {m : Nat} (hm : p = Go.Proofs.YtekbfommnmikbaaGreatDoor.dg 1000000000 m) (h0 : p ≠ []) : sst p (dn p.length p.length) = Lib.decDigits m := by
  have hl : 0 < p.length := List.length_pos_iff.2 h0
  obtain ⟨v, h1, h2, h3⟩ := sst_dn (p := p) (by rw [hm]; exact dg_inR (by decide) m) (by rw [hm]; exact dg_noTop (by decide) m) (p.length - 1) (by omega)
  rw [show p.length - 1 + 1 = p.length by omega] at h2 h3
  rw [Nat.sub_self, List.drop_zero, hm, val_dg (by decide)] at h2
  have : m = v := by exact_mod_cast h2
  rw [h3, this]


theorem heap_box {w : World} {b : Nat} {cs : Array Value} {t : TypeId} (h : w.heap[b]? = some (.cells cs t (0, 0))) (i : Nat) : w.cell? ⟨b, i, none⟩ = cs[i]? := cell_of_heap h i
theorem builder_kept {T e : TypeId} {B b : Nat} {bs : List Value} {W W' : World} {row : Option Nat} (h : Lib.IsBuilder T e B b bs W) (hg : W.grownBy W' row) (hr : ∀ r, row = some r → ∃ o : Obj, W.heap[r]? = some o ∧ o.isCells = false) : Lib.IsBuilder T e B b bs W' := by
  have key : ∀ p, Lib.BuilderAt T e B b p bs W → Lib.BuilderAt T e B b p bs W' := by
    rintro p ⟨hB, v, hb, hown, hne⟩
    refine ⟨hB, v, ?_, own_kept hown hg hr, hne⟩
    rw [hg.block b (Array.getElem?_eq_some_iff.1 hb).1 ?_]
    · exact hb
    · intro e'
      obtain ⟨o, ho, hc⟩ := hr b e'.symm
      rw [hb] at ho; cases ho; cases hc
  exact h.elim (fun x => .inl (key _ x)) (fun x => .inr (key _ x))
theorem builder_below {T e : TypeId} {B b : Nat} {bs : List Value} {W W' : World} (h : Lib.IsBuilder T e B b bs W) (hb : Below W.heap.size W W') : Lib.IsBuilder T e B b bs W' := by
  have key : ∀ p, Lib.BuilderAt T e B b p bs W → Lib.BuilderAt T e B b p bs W' := by
    rintro p ⟨hB, v, hbk, hown, hne⟩
    exact ⟨hB, v, (hb.block b (Array.getElem?_eq_some_iff.1 hbk).1).trans hbk, own_below hown hb, hne⟩
  exact h.elim (fun x => .inl (key _ x)) (fun x => .inr (key _ x))
theorem heap_kept {W W' : World} {b : Nat} {cs : Array Value} {t : TypeId} {fz : Nat × Nat} {row : Option Nat} (h : W.heap[b]? = some (.cells cs t fz)) (hg : W.grownBy W' row) (hr : ∀ r, row = some r → ∃ o : Obj, W.heap[r]? = some o ∧ o.isCells = false) : W'.heap[b]? = some (.cells cs t fz) := by
  rw [hg.block b (Array.getElem?_eq_some_iff.1 h).1 ?_]
  · exact h
  · intro e'
    obtain ⟨o, ho, hc⟩ := hr b e'.symm
    rw [h] at ho; cases ho; cases hc
theorem heap_below {W W' : World} {b : Nat} {o : Obj} (h : W.heap[b]? = some o) (hb : Below W.heap.size W W') : W'.heap[b]? = some o := (hb.block b (Array.getElem?_eq_some_iff.1 h).1).trans h
theorem heap_others {e : TypeId} {c : Nat} {W W' : World} {b : Nat} {cs : Array Value} {t : TypeId} {fz : Nat × Nat} (h : W.heap[b]? = some (.cells cs t fz)) (hb : Lib.OthersKept e (some c) W W') (h1 : b ≠ c) (h2 : t ≠ e) : W'.heap[b]? = some (.cells cs t fz) :=
  hb b _ h (fun e' => h1 (by cases e'; rfl)) (fun c' fz' e' => by cases e'; exact h2 rfl)
theorem keepsOthers_others {e : TypeId} {c B : Nat} {W W' : World} (h : Lib.OthersKept e (some c) W W') (hb : Below B W W') (hc : ∀ o, W.heap[c]? = some o → o.isCells = true) : KeepsOthers W W' :=
  ⟨hb.size, fun k o hk ho => h k o hk (fun e' => by cases e'; rw [hc o hk] at ho; cases ho) (fun c' fz' e' => by subst e'; cases ho)⟩
theorem builder_cells {T e : TypeId} {B b : Nat} {bs : List Value} {W : World} (h : Lib.IsBuilder T e B b bs W) : ∀ o, W.heap[b]? = some o → o.isCells = true := by
  intro o ho
  rcases h with ⟨_, v, hb, _⟩ | ⟨_, v, hb, _⟩ <;> · rw [hb] at ho; cases ho; rfl

theorem var_stay {P : Program} {W W' : World} {n : String} {cs : Array Value} (h : W.var? P n = some cs) (hb : Below W.heap.size W W') : W'.var? P n = some cs := by
  unfold World.var? at h ⊢
  cases hg : P.globalNamed n with
  | none => rw [hg] at h; cases h
  | some g =>
    rw [hg] at h
    simp only [Option.bind_some] at h ⊢
    have hlt : g < W.heap.size := by
      rcases Nat.lt_or_ge g W.heap.size with h' | h'
      · exact h'
      · rw [Array.getElem?_eq_none h'] at h; cases h
    rw [hb.block g hlt]
    exact h

/-- What the texts read of the tables that start-up code lays. -/
structure Tabs (w : World) : Prop where
  pow10 : Lib.TabIs Tryz.prog w "internal/strconv.uint64pow10" .u64 Lib.pow10Tab
  digit : Lib.TabIs Tryz.prog w "mjolner/number.digit" .u8 [48, 49, 50, 51, 52, 53, 54, 55, 56, 57, 97, 98, 99, 100, 101, 102, 103, 104, 105, 106, 107, 108, 109, 110, 111, 112, 113, 114, 115, 116, 117, 118, 119, 120, 121, 122]
  range : ∃ tp p, w.var? Tryz.prog "strconv.ErrRange" = some #[.iface tp p]
  syn : ∃ tp p, w.var? Tryz.prog "strconv.ErrSyntax" = some #[.iface tp p]
theorem Tabs.below {w w' : World} (h : Tabs w) (hb : Below w.heap.size w w') : Tabs w' :=
  ⟨var_stay h.pow10 hb, var_stay h.digit hb, h.range.imp fun _ h => h.imp fun _ h => var_stay h hb, h.syn.imp fun _ h => h.imp fun _ h => var_stay h hb⟩

theorem itoa_c (d : Nat) (hd : d < 1000000000) (w : World) (ht : Tabs w) : Calls Tryz.prog 99 #[.int .i64 d] w fun e w' => e = .returned (.string ⟨(Lib.decDigits d).toArray⟩) ∧ Below w.heap.size w w' := by
  refine (Tryz.strconv_Itoa d (by omega) (by omega) w ht.pow10).mono ?_
  rintro e w' ⟨rfl, k, os, rfl⟩
  refine ⟨by simp [Lib.itoa], ?_⟩
  exact Lib.below_grow _ w (Nat.le_refl _) k os


theorem boxes3h (w : World) (a0 a1 a2 : Array Value) (t0 t1 t2 : TypeId) : ∃ W, ((w.alloc (.cells a0 t0)).alloc (.cells a1 t1)).alloc (.cells a2 t2) = W ∧ W.heap[w.heap.size]? = some (.cells a0 t0 (0, 0)) ∧ W.heap[w.heap.size + 1]? = some (.cells a1 t1 (0, 0)) ∧ W.heap[w.heap.size + 1 + 1]? = some (.cells a2 t2 (0, 0)) ∧ Bel w.heap.size w W ∧ W.heap.size = w.heap.size + 1 + 1 + 1 :=
  ⟨_, rfl, heap_old _ (heap_old _ (heap_alloc_new _ _)), heap_old _ (heap_new' _ _ _ (by simp)), heap_new' _ _ _ (by simp), (((Bel.refl _ _ (Nat.le_refl _)).alloc _).alloc _).alloc _, by simp⟩

theorem rep_size (k : Nat) : (ByteArray.mk (Lib.repeatL [48] k).toArray).size = k := by
  show (Lib.repeatL [48] k).toArray.size = k
  simp [Lib.repeatL_length]
/-- Where a round of String stands. -/
structure SB (B : Nat) (V : World) (v : Value) (bs : List Value) (V1 : World) : Prop where
  hp : V1.heap[B]? = some (.cells #[v] 134 (0, 0))
  hd : V1.heap[B + 1 + 1]? = some (.cells #[v] 134 (0, 0))
  bu : Lib.IsBuilder 166 5 B (B + 1) bs V1
  ov : Ov B (B + 1 + 1) V V1
theorem SB.call {B : Nat} {V : World} {v : Value} {bs : List Value} {V1 V2 : World} (h : SB B V v bs V1) (hb : Below V1.heap.size V1 V2) : SB B V v bs V2 :=
  ⟨heap_below h.hp hb, heap_below h.hd hb, builder_below h.bu hb, h.ov.call hb⟩
theorem SB.write {B : Nat} {V : World} {v : Value} {bs bs' : List Value} {V1 V2 : World} {q : Value} (h : SB B V v bs V1) (h1 : Lib.BuilderAt 166 5 B (B + 1) q bs' V2) (hq : q = .pointer (some ⟨B + 1, 0, none⟩)) (hb : Below B V1 V2) (hk : Lib.OthersKept 5 (some (B + 1)) V1 V2) : SB B V v bs' V2 := by
  have e1 := heap_others h.hd hk (by omega) (by decide)
  refine ⟨heap_others h.hp hk (by omega) (by decide), e1, .inr (by subst hq; exact h1), h.ov.b.trans hb, h.ov.ko.trans (keepsOthers_others hk hb (builder_cells h.bu)), ?_, h.ov.lt⟩
  rw [e1, ← h.ov.bx, h.hd]
theorem SB.size {B : Nat} {V : World} {v : Value} {bs : List Value} {V1 : World} (h : SB B V v bs V1) : B ≤ V1.heap.size := by
  have := (Array.getElem?_eq_some_iff.1 h.hp).1
  omega

set_option maxRecDepth 100000 in
set_option maxHeartbeats 4000000 in
theorem string_in (v1 : Value) (m : Nat) (w : World) (h1 : Dg 1000000000 w v1 m) (ht : Tabs w) (hl : (dg 1000000000 m).length ≤ 1000000) :
    CallsIn Fence.wide 6 Tryz.prog 196 #[v1] w fun e w' => e = .returned (.string ⟨(Lib.decDigits m).toArray⟩) ∧ Below w.heap.size w w' := by
  obtain ⟨A1, c1, rfl, hc1, hm1, hr1⟩ := h1
  have HT := Lib.hid ht
  clear ht
  by_cases h0 : dg 1000000000 m = []
  · have hm0 : m = 0 := (dg_eq_nil (by decide)).1 h0
    subst hm0
    rw [dg_zero]
    refine callsIn_wide.2 ?_
    clear hr1
    go_enter Tryz.func196, Tryz.ntmps196
    go_wp2
    go_ret
    exact ⟨by rw [Lib.decDigits_one (by decide)]; rfl, (by repeat (first | exact Below.refl _ _ | exact HB.out | (refine Below.alloc ?_ (by first | (simp; done) | (simp; omega)) _) | (refine Below.setCell ?_ (by first | (simp; done) | (simp; omega)) _) | refine Below.drew ?_ | refine below_drewN ?_ _))⟩
  · have HR1 := Lib.hid hr1
    have I1 := Lib.hid (dg_inR (b := 1000000000) (by decide) m)
    have HSA := Lib.hid (sst_all (p := dg 1000000000 m) rfl h0)
    have hAb : ∀ a, A1 = some a → (dg 1000000000 m).length = 0 ∨ a.block < w.heap.size := fun a ha => by
      rcases Nat.eq_zero_or_pos (dg 1000000000 m).length with h | h
      · exact .inl h
      · obtain ⟨a', e', hc'⟩ := hr1 0 h
        rw [ha] at e'; cases e'
        exact .inr (by have := World.block_lt_of_cell? w _ hc'; rwa [add_block] at this)
    have HAB := Lib.hid hAb
    clear hr1 hAb
    generalize dg 1000000000 m = p at *
    have hpos : 0 < p.length := List.length_pos_iff.2 h0
    have hne : ¬ (p.length : Int) = 0 := by omega
    clear h0
    refine callsIn_of_wp_marks Tryz.func196 rfl trivial ?_ rfl
    simp only [Tryz.ntmps196, List.size_toArray, List.length_cons, List.length_nil, Nat.reduceAdd, Nat.reduceSub, Array.replicate_succ, Array.replicate_zero, List.push_toArray, List.append_toArray, List.nil_append, List.cons_append]
    gi_wp2_with (refine ⟨trivial, ?_⟩; gi_at_call 223; refine (down_in Fence.wide (6 - 1) trivial rfl _ _ _ _).mono ?_; rintro e w' ⟨rfl, rfl⟩)
    obtain ⟨W, hW, k0, k1, k2, hbel, hsz⟩ := boxes3h w #[.slice A1 p.length c1] #[.pointer none, .slice none 0 0] #[.slice A1 p.length c1] 134 166 134
    rw [hW]
    have hb0 : Lib.IsBuilder 166 5 w.heap.size (w.heap.size + 1) (Lib.byteCells (sst p [])) W := .inl ⟨by omega, _, k1, World.ownsRow_nil _ _ _ _, by simp [Value.ownBlock]⟩
    refine wpIn_rangeFunc_ownF rfl (by decide) (gf := 239) (lb := #[.pointer (some ⟨w.heap.size + 1 + 1, 0, none⟩)]) rfl trivial (enters_of Tryz.func239 (by kernel_rfl) rfl)
      (down_stops Fence.wide (6 - 1) trivial rfl (by decide) (w.heap.size + 1 + 1) w.heap.size A1 c1 p (by omega) W (by rw [hsz]; omega) (fun a ha => ?hA) (by rw [hsz]; omega) (heap_box k2 0) (HR1.out.below hbel.to)) Kd.t (Kd.b (by rw [hsz]; omega) (by rw [hsz]; omega)) (Below.refl _ _) (fun _ => rfl)
      (fun pre V => (V.heap[w.heap.size]? = some (.cells #[.slice A1 p.length c1] 134 (0, 0)) ∧ V.heap[w.heap.size + 1 + 1]? = some (.cells #[.slice A1 p.length c1] 134 (0, 0)) ∧ Lib.IsBuilder 166 5 w.heap.size (w.heap.size + 1) (Lib.byteCells (sst p pre)) V) ∧ Below w.heap.size w V)
      (fun c pre V => False)
      (OwnFrom.and (Own.from (fun s X Y row hs hg hr => ⟨heap_kept hs.1 hg hr, heap_kept hs.2.1 hg hr, builder_kept hs.2.2 hg hr⟩) _) (ownFrom_below (Nat.le_refl _) (by rw [hsz]; omega)))
      (fun c s X Y row hs _ _ => hs)
      ⟨⟨k0, k2, hb0⟩, hbel.to⟩
      (fun x => { tmps := (.slice A1 p.length c1 :: .pointer (some ⟨w.heap.size, 0, none⟩) :: .string { data := #[] } :: .pointer (some ⟨w.heap.size + 1, 0, none⟩) :: .int .i64 ((x.1 : Nat) : Int) :: .int .i64 (p[x.1]?.getD 0) :: undef :: .slice A1 p.length c1 :: .int .i64 p.length :: .bool false :: .slice A1 p.length c1 :: .func (.func 239) #[] #[.pointer (some ⟨w.heap.size + 1 + 1, 0, none⟩)] :: .int .i64 ((x.1 : Nat) : Int) :: .int .i64 (p[x.1]?.getD 0) :: undef :: undef :: undef :: undef :: undef :: undef :: undef :: undef :: undef :: undef :: undef :: undef :: undef :: undef :: undef :: []).toArray, defers := [] }) ?assign ?body ?done ?stop
    case hA => exact HAB.out a ha
    case assign =>
      intro l x W K hK
      gi_wp2
      exact hK
    case stop => rintro _ _ _ _ _ _ h; exact h.elim
    case body =>
      rintro l pre x V ⟨⟨a1, a2, a3⟩, hB⟩ hpl
      obtain ⟨xi, hxi⟩ := x
      dsimp only at *
      obtain ⟨b0, b1⟩ := I1.out.at_ (by decide) xi
      rw [List.getD_eq_getElem?_getD] at b0 b1
      have ESN := Lib.hid (sst_snoc p pre ⟨xi, hxi⟩)
      have hsl := sst_length I1.out pre
      dsimp only at ESN
      obtain ⟨d, hd⟩ := Int.eq_ofNat_of_zero_le b0
      rw [hd] at b1 ESN ⊢
      have hdt : d < 1000000000 := by omega
      have HDT := Lib.hid hdt
      have h9 := nDigits9 hdt
      obtain ⟨S, hS⟩ : ∃ S : ByteArray, ⟨(Lib.decDigits d).toArray⟩ = S := ⟨_, rfl⟩
      have hss : S.size = (Lib.decDigits d).length := by rw [← hS]; simp [ByteArray.size]
      have hrep : (9 : Int) - S.size = ((9 - S.size : Nat) : Int) := by omega
      have hs9 : S.size ≤ 9 := by omega
      have HSS := Lib.hid hS
      have HTV := Lib.hid (HT.out.below hB)
      have HSB : Hid (SB w.heap.size V (.slice A1 p.length c1) (Lib.byteCells (sst p pre)) V) := ⟨a1, a2, a3, Ov.refl hB.size (by have := (Array.getElem?_eq_some_iff.1 a2).1; omega)⟩
      have hsl2 : (sst p pre).length ≤ 18000000 := by omega
      have HBB := Lib.hid hB
      clear b0 b1 hdt h9 hss hpl hS hsl a1 a2 a3 hB hd hW k0 k1 k2 hb0
      by_cases hc : xi + 1 < p.length
      · have hci : (xi : Int) < (p.length : Int) - 1 := by omega
        have HC := Lib.hid hc
        clear hc
        gi_wp2_with (first | (refine ⟨trivial, ?_⟩; gi_at_call 99; refine (CallsIn.inRound l (callsIn_wide.2 (itoa_c d HDT.out _ HTV.out))).mono ?_; rintro e w' ⟨rfl, hb⟩; rw [HSS.out]; have HSB := Lib.hid (HSB.out.call hb); have cp : w'.cell? ⟨w.heap.size, 0, none⟩ = some (.slice A1 p.length c1) := heap_box HSB.out.hp 0; clear hb) | (refine ⟨trivial, ?_⟩; gi_at_call 101; (try rw [hrep]); refine (CallsIn.inRound l (callsIn_wide.2 (Tryz.strings_Repeat ⟨#[48]⟩ (9 - S.size) _ (by omega) (by show 1 * (9 - S.size) ≤ _; omega)))).mono ?_; rintro e w' ⟨rfl, hb⟩; have HSB := Lib.hid (HSB.out.call hb); clear hb) | (refine ⟨trivial, ?_⟩; gi_at_call 170; refine (CallsIn.inRound l (callsIn_wide.2 (writeString_c _ _ _ _ _ HSB.out.bu (by simp only [List.length_append, Lib.byteCells_length, Lib.strCells_length, rep_size]; omega) HSB.out.size))).mono ?_; rintro e w' ⟨rfl, h1, hb, hok⟩; have HSB := Lib.hid (HSB.out.write h1 rfl hb hok); clear h1 hb hok))
        have hend := HSB.out
        refine ⟨hend.ov.ko, hend.ov.kd, ⟨hend.hp, hend.hd, ?_⟩, HBB.out.trans hend.ov.b⟩
        rw [ESN.out, if_pos HC.out]
        have e3 := hend.bu
        rw [← HSS.out] at e3
        simpa [Lib.byteCells_append, Lib.strCells_eq, ByteArray.size] using e3
      · have hci : ¬ (xi : Int) < (p.length : Int) - 1 := by omega
        have HC := Lib.hid hc
        clear hc
        gi_wp2_with (first | (refine ⟨trivial, ?_⟩; gi_at_call 99; refine (CallsIn.inRound l (callsIn_wide.2 (itoa_c d HDT.out _ HTV.out))).mono ?_; rintro e w' ⟨rfl, hb⟩; rw [HSS.out]; have HSB := Lib.hid (HSB.out.call hb); have cp : w'.cell? ⟨w.heap.size, 0, none⟩ = some (.slice A1 p.length c1) := heap_box HSB.out.hp 0; clear hb) | (refine ⟨trivial, ?_⟩; gi_at_call 101; (try rw [hrep]); refine (CallsIn.inRound l (callsIn_wide.2 (Tryz.strings_Repeat ⟨#[48]⟩ (9 - S.size) _ (by omega) (by show 1 * (9 - S.size) ≤ _; omega)))).mono ?_; rintro e w' ⟨rfl, hb⟩; have HSB := Lib.hid (HSB.out.call hb); clear hb) | (refine ⟨trivial, ?_⟩; gi_at_call 170; refine (CallsIn.inRound l (callsIn_wide.2 (writeString_c _ _ _ _ _ HSB.out.bu (by simp only [List.length_append, Lib.byteCells_length, Lib.strCells_length, rep_size]; omega) HSB.out.size))).mono ?_; rintro e w' ⟨rfl, h1, hb, hok⟩; have HSB := Lib.hid (HSB.out.write h1 rfl hb hok); clear h1 hb hok))
        have hend := HSB.out
        refine ⟨hend.ov.ko, hend.ov.kd, ⟨hend.hp, hend.hd, ?_⟩, HBB.out.trans hend.ov.b⟩
        rw [ESN.out, if_neg HC.out]
        have e3 := hend.bu
        rw [← HSS.out] at e3
        simpa [Lib.byteCells_append, Lib.strCells_eq, ByteArray.size] using e3
    case done =>
      rintro D ys V hD rfl ⟨⟨a1, a2, a3⟩, hB⟩ hK
      rw [HSA.out] at a3
      have HBU := Lib.hid a3
      have HBB := Lib.hid hB
      have HK := Lib.hid hK
      clear hW k0 k1 k2 hb0 a1 a2 a3 hB hK
      gi_wp2_with (refine ⟨trivial, ?_⟩; gi_at_call 172; refine (callsIn_wide.2 (Tryz.Builder_String_any_k _ _ (Lib.decDigits m) _ (Lib.IsBuilderF.of HBU.out) HBB.out.size)).mono ?_; rintro e w' ⟨rfl, -, hb, hok⟩)
      have hK' := (keepsOthers_others hok hb (builder_cells HBU.out)).same D _ HK.out rfl
      refine ⟨by simp, .inl ⟨_, _, rfl, run_takeDeferred hK', ?_⟩⟩
      refine ⟨.string ⟨(Lib.decDigits m).toArray⟩, ?_, rfl, (HBB.out.trans hb).trans (belowK_b (w := w) (Nat.le_refl _) _ D _ _ (by omega) hK' rfl rfl)⟩
      simp [results, Tryz.f196, go_sem]

theorem string_c (v1 : Value) (m : Nat) (w : World) (h1 : Dg 1000000000 w v1 m) (ht : Tabs w) (hl : (dg 1000000000 m).length ≤ 1000000) :
    Calls Tryz.prog 196 #[v1] w fun e w' => e = .returned (.string ⟨(Lib.decDigits m).toArray⟩) ∧ Below w.heap.size w w' := callsIn_wide.1 (string_in v1 m w h1 ht hl)

end Go.Proofs.YtekbfommnmikbaaGreatDoor

namespace Go.Proofs.YtekbfommnmikbaaGreatDoor
set_option linter.unusedVariables false
set_option linter.unusedSimpArgs false
open Go.RowKit
attribute [local go_sem] max2_int min2_int max_two min_two

theorem add_sign_same {x y : Int} {bx by_ : Bool} (h1 : decide (x < 0) = bx) (h2 : decide (y < 0) = by_) (h3 : bx = by_) : x.natAbs + y.natAbs = (x + y).natAbs ∧ (bx && decide (0 < x.natAbs + y.natAbs)) = decide (x + y < 0) := by
  subst h3
  have h4 : (x < 0) ↔ (y < 0) := by rw [← decide_eq_decide, h1, h2]
  subst h1
  by_cases hx : x < 0
  · have hy := h4.1 hx
    refine ⟨by omega, ?_⟩
    rw [decide_eq_true hx, decide_eq_true (by omega : 0 < x.natAbs + y.natAbs), decide_eq_true (by omega : x + y < 0)]; rfl
  · have hy : ¬ y < 0 := fun h => hx (h4.2 h)
    refine ⟨by omega, ?_⟩
    rw [decide_eq_false hx, decide_eq_false (by omega : ¬ x + y < 0)]; rfl
theorem add_sign_ge {x y : Int} {bx by_ : Bool} (h1 : decide (x < 0) = bx) (h2 : decide (y < 0) = by_) (h3 : ¬ bx = by_) (h : y.natAbs ≤ x.natAbs) : x.natAbs - y.natAbs = (x + y).natAbs ∧ (bx && decide (0 < x.natAbs - y.natAbs)) = decide (x + y < 0) := by
  have h4 : ¬ ((x < 0) ↔ (y < 0)) := by rw [← decide_eq_decide, h1, h2]; exact h3
  subst h1
  by_cases hx : x < 0
  · have hy : ¬ y < 0 := fun k => h4 ⟨fun _ => k, fun _ => hx⟩
    refine ⟨by omega, ?_⟩
    rw [decide_eq_true hx, Bool.true_and, decide_eq_decide]; omega
  · have hy : y < 0 := by
      rcases Int.lt_or_le y 0 with k | k
      · exact k
      · exact absurd ⟨fun a => absurd a hx, fun a => absurd a (by omega)⟩ h4
    refine ⟨by omega, ?_⟩
    rw [decide_eq_false hx, decide_eq_false (by omega : ¬ x + y < 0)]; rfl
theorem add_sign_lt {x y : Int} {bx by_ : Bool} (h1 : decide (x < 0) = bx) (h2 : decide (y < 0) = by_) (h3 : ¬ bx = by_) (h : ¬ y.natAbs ≤ x.natAbs) : y.natAbs - x.natAbs = (x + y).natAbs ∧ (by_ && decide (0 < y.natAbs - x.natAbs)) = decide (x + y < 0) := by
  rw [Int.add_comm x y]
  exact add_sign_ge h2 h1 (fun e => h3 e.symm) (by omega)

set_option maxHeartbeats 2000000 in
set_option maxRecDepth 100000 in
theorem add_same (v1 v2 : Value) (x y : Int) (w : World) (h1 : Wh w v1 x) (h2 : Wh w v2 y) (hm : (dg 1000000000 x.natAbs).length ≤ 1000000) (hn : (dg 1000000000 y.natAbs).length ≤ 1000000) (hxy : decide (x < 0) = decide (y < 0)) :
    Calls Tryz.prog 142 #[v1, v2] w (WhPN (x + y) w) := by
  obtain ⟨p, rfl, hp⟩ := h1
  obtain ⟨q, rfl, hq⟩ := h2
  have HP := Lib.hid hp
  have HQ := Lib.hid hq
  clear hp hq
  generalize hbx : decide (x < 0) = bx at *
  generalize hby : decide (y < 0) = by_ at *
  have HBX := Lib.hid (And.intro hbx (And.intro hby hxy))
  have hbb : (bx == by_) = true := by simp [hxy]
  clear hbx hby hxy
  go_enter Tryz.func142, Tryz.ntmps142
  go_wp2_with fail
  obtain ⟨W, hW, k0, k1, k2, f0, f1, f2, hbel, hsz⟩ := boxes3 w #[.bool bx, p] #[.bool by_, q] #[.bool false, .slice none 0 0] 136 136 136; rw [hW]; have c00 := k0 0; have c01 := k0 1; have c10 := k1 0; have c11 := k1 1; have c20 := k2 0; have c21 := k2 1; have f20 := f2 0; have f21 := f2 1; simp at c00 c01 c10 c11 c20 c21; have s20 : (W.cell? ⟨w.heap.size + 1 + 1, 0, none⟩).isSome = true := by rw [c20]; rfl
  have s21 : (W.cell? ⟨w.heap.size + 1 + 1, 1, none⟩).isSome = true := by rw [c21]; rfl
  clear k0 k1 k2 f0 f1 f2 c20 c21 hsz hW
  go_wp2_with fail
  go_region_held3 (fun w' => w'.cell? ⟨w.heap.size, 0, none⟩ = some (.bool bx) ∧ w'.cell? ⟨w.heap.size, 1, none⟩ = some p ∧ w'.cell? ⟨w.heap.size + 1, 0, none⟩ = some (.bool by_) ∧ w'.cell? ⟨w.heap.size + 1, 1, none⟩ = some q ∧ (w'.cell? ⟨w.heap.size + 1 + 1, 0, none⟩).isSome = true ∧ (w'.cell? ⟨w.heap.size + 1 + 1, 1, none⟩).isSome = true ∧ w'.frozen? ⟨w.heap.size + 1 + 1, 0, none⟩ = false ∧ w'.frozen? ⟨w.heap.size + 1 + 1, 1, none⟩ = false ∧ Bel w.heap.size w w')
    ((go_split_ands; refine ⟨?_, ?_, ?_, ?_, ?_, ?_, ?_, ?_, ?_⟩ <;> (first | assumption | exact keep_cell hbz (by assumption) | exact keep_some hbz (by assumption) | exact keep_free hbz (by assumption) (by assumption) | exact keep_free' hbz (by assumption) (by assumption) | exact Bel.call (by assumption) hbz | exact Bel.drew (by assumption) | ((repeat (first | assumption | (refine Bel.set ?_ _ (by first | (simp; done) | (simp; omega))) | refine Bel.drew ?_)); done) | exact some_set (by assumption) | exact some_set (some_set (by assumption)) | (refine set_far _ (by first | (simp; done) | (simp; omega)) (set_far _ (by first | (simp; done) | (simp; omega)) (by assumption))) | (refine set_far _ (by first | (simp; done) | (simp; omega)) (by assumption)) | (simp only [World.frozen?_setCell]; assumption) | (simp [*]; done))))
    (first
      | (go_at_call 190; refine (plus_c p q x.natAbs y.natAbs _ ?_ ?_ hm hn).mono ?_; (go_split_ands; exact HP.out.below (Bel.to (by assumption))); (go_split_ands; exact HQ.out.below (Bel.to (by assumption))); rintro e w' ⟨u, rfl, hu, hfu, hbz⟩; go_must (have HF := Lib.hid (hfu.mono (Nat.succ_le_of_lt (lt_of_some (a := ⟨w.heap.size + 1 + 1, 0, none⟩) (by go_split_ands; assumption)))); have HU := Lib.hid hu; clear hu hfu))
      | (go_at_call 189; obtain ⟨Az_, nz_, cz_, hform⟩ := HU.out.form; subst hform; refine (made_c _ _ (x.natAbs + y.natAbs) _ HU.out).mono ?_; rintro e w' ⟨rfl, hbz⟩; have HV := Lib.hid (HU.out.below hbz); clear HU)
      | (go_split_ands; obtain ⟨zu0, hzu0⟩ := Option.isSome_iff_exists.1 (show (World.cell? _ ⟨w.heap.size + 1 + 1, 0, none⟩).isSome = true by assumption); obtain ⟨zu1, hzu1⟩ := Option.isSome_iff_exists.1 (show (World.cell? _ ⟨w.heap.size + 1 + 1, 1, none⟩).isSome = true by assumption); go_simp))
  go_wp2
  go_split_ands
  refine bodyPost_ret (v := .agg #[.bool (bx && decide (0 < x.natAbs + y.natAbs)), .slice Az_ nz_ cz_]) (by simp [results, Tryz.results142, go_sem, hzu0, hzu1]) rfl ?_
  obtain ⟨h1, h2, h3⟩ := HBX.out
  refine whPN_mk ?_ ?_ (HF.out.mono (by omega)) (Bel.to (by assumption))
  · exact (add_sign_same h1 h2 h3).2
  · rw [← (add_sign_same h1 h2 h3).1]; exact Dg.set (Dg.set HV.out HF.out (by simp) _) HF.out (by simp) _

set_option maxHeartbeats 4000000 in
set_option maxRecDepth 100000 in
theorem add_diff (v1 v2 : Value) (x y : Int) (w : World) (h1 : Wh w v1 x) (h2 : Wh w v2 y) (hm : (dg 1000000000 x.natAbs).length ≤ 1000000) (hn : (dg 1000000000 y.natAbs).length ≤ 1000000) (hxy : ¬ decide (x < 0) = decide (y < 0)) :
    Calls Tryz.prog 142 #[v1, v2] w (WhPN (x + y) w) := by
  obtain ⟨p, rfl, hp⟩ := h1
  obtain ⟨q, rfl, hq⟩ := h2
  have HP := Lib.hid hp
  have HQ := Lib.hid hq
  clear hp hq
  generalize hbx : decide (x < 0) = bx at *
  generalize hby : decide (y < 0) = by_ at *
  have HBX := Lib.hid (And.intro hbx (And.intro hby hxy))
  have hbb : (bx == by_) = false := by simp [hxy]
  clear hbx hby hxy
  obtain ⟨s, hs⟩ : ∃ s, sgn ((x.natAbs : Int) - y.natAbs) = s := ⟨_, rfl⟩
  have HSG := Lib.hid hs
  by_cases hle : y.natAbs ≤ x.natAbs
  · have hs0 : 0 ≤ s := by
      rw [← hs]
      rcases Nat.eq_or_lt_of_le hle with h | h
      · rw [h, Int.sub_self]; decide
      · rw [sgn_gt (by omega)]; decide
    have HLE := Lib.hid hle
    clear hs hle
    go_enter Tryz.func142, Tryz.ntmps142
    go_wp2_with fail
    obtain ⟨W, hW, k0, k1, k2, f0, f1, f2, hbel, hsz⟩ := boxes3 w #[.bool bx, p] #[.bool by_, q] #[.bool false, .slice none 0 0] 136 136 136; rw [hW]; have c00 := k0 0; have c01 := k0 1; have c10 := k1 0; have c11 := k1 1; have c20 := k2 0; have c21 := k2 1; have f20 := f2 0; have f21 := f2 1; simp at c00 c01 c10 c11 c20 c21; have s20 : (W.cell? ⟨w.heap.size + 1 + 1, 0, none⟩).isSome = true := by rw [c20]; rfl
    have s21 : (W.cell? ⟨w.heap.size + 1 + 1, 1, none⟩).isSome = true := by rw [c21]; rfl
    clear k0 k1 k2 f0 f1 f2 hsz hW
    go_wp2_with (go_at_call 191; refine (compare_c p q x.natAbs y.natAbs _ (HP.out.below hbel.to) (HQ.out.below hbel.to)).mono ?_; rintro e W2 ⟨he, hbz⟩; rw [HSG.out] at he; subst he; have c00 := keep_cell hbz c00; have c01 := keep_cell hbz c01; have c10 := keep_cell hbz c10; have c11 := keep_cell hbz c11; have f20 := keep_free' hbz c20 f20; have f21 := keep_free' hbz c21 f21; have s20 := keep_some hbz s20; have s21 := keep_some hbz s21; have hbel := hbel.call hbz; clear c20 c21 hbz)
    go_region_held3 (fun w' => w'.cell? ⟨w.heap.size, 0, none⟩ = some (.bool bx) ∧ w'.cell? ⟨w.heap.size, 1, none⟩ = some p ∧ w'.cell? ⟨w.heap.size + 1, 0, none⟩ = some (.bool by_) ∧ w'.cell? ⟨w.heap.size + 1, 1, none⟩ = some q ∧ (w'.cell? ⟨w.heap.size + 1 + 1, 0, none⟩).isSome = true ∧ (w'.cell? ⟨w.heap.size + 1 + 1, 1, none⟩).isSome = true ∧ w'.frozen? ⟨w.heap.size + 1 + 1, 0, none⟩ = false ∧ w'.frozen? ⟨w.heap.size + 1 + 1, 1, none⟩ = false ∧ Bel w.heap.size w w')
      ((go_split_ands; refine ⟨?_, ?_, ?_, ?_, ?_, ?_, ?_, ?_, ?_⟩ <;> (first | assumption | exact keep_cell hbz (by assumption) | exact keep_some hbz (by assumption) | exact keep_free hbz (by assumption) (by assumption) | exact keep_free' hbz (by assumption) (by assumption) | exact Bel.call (by assumption) hbz | exact Bel.drew (by assumption) | ((repeat (first | assumption | (refine Bel.set ?_ _ (by first | (simp; done) | (simp; omega))) | refine Bel.drew ?_)); done) | exact some_set (by assumption) | exact some_set (some_set (by assumption)) | (refine set_far _ (by first | (simp; done) | (simp; omega)) (set_far _ (by first | (simp; done) | (simp; omega)) (by assumption))) | (refine set_far _ (by first | (simp; done) | (simp; omega)) (by assumption)) | (simp only [World.frozen?_setCell]; assumption) | (simp [*]; done))))
      (first
        | (go_at_call 192; refine (minus_c p q x.natAbs y.natAbs _ ?_ ?_ hm HLE.out).mono ?_; (go_split_ands; exact HP.out.below (Bel.to (by assumption))); (go_split_ands; exact HQ.out.below (Bel.to (by assumption))); rintro e w' ⟨u, rfl, hu, hfu, hbz⟩; go_must (have HF := Lib.hid (hfu.mono (Nat.succ_le_of_lt (lt_of_some (a := ⟨w.heap.size + 1 + 1, 0, none⟩) (by go_split_ands; assumption)))); have HU := Lib.hid hu; clear hu hfu))
        | (go_at_call 189; obtain ⟨Az_, nz_, cz_, hform⟩ := HU.out.form; subst hform; refine (made_c _ _ (x.natAbs - y.natAbs) _ HU.out).mono ?_; rintro e w' ⟨rfl, hbz⟩; have HV := Lib.hid (HU.out.below hbz); clear HU)
        | (go_split_ands; obtain ⟨zu0, hzu0⟩ := Option.isSome_iff_exists.1 (show (World.cell? _ ⟨w.heap.size + 1 + 1, 0, none⟩).isSome = true by assumption); obtain ⟨zu1, hzu1⟩ := Option.isSome_iff_exists.1 (show (World.cell? _ ⟨w.heap.size + 1 + 1, 1, none⟩).isSome = true by assumption); go_simp))
    go_wp2
    go_split_ands
    refine bodyPost_ret (v := .agg #[.bool (bx && decide (0 < x.natAbs - y.natAbs)), .slice Az_ nz_ cz_]) (by simp [results, Tryz.results142, go_sem, hzu0, hzu1]) rfl ?_
    obtain ⟨h1, h2, h3⟩ := HBX.out
    refine whPN_mk ?_ ?_ (HF.out.mono (by omega)) (Bel.to (by assumption))
    · exact (add_sign_ge h1 h2 h3 HLE.out).2
    · rw [← (add_sign_ge h1 h2 h3 HLE.out).1]; exact Dg.set (Dg.set HV.out HF.out (by simp) _) HF.out (by simp) _
  · have hs0 : ¬ 0 ≤ s := by rw [← hs, sgn_lt (by omega)]; decide
    have HLE := Lib.hid (Nat.le_of_lt (Nat.lt_of_not_le hle))
    have HNL := Lib.hid hle
    clear hs hle
    go_enter Tryz.func142, Tryz.ntmps142
    go_wp2_with fail
    obtain ⟨W, hW, k0, k1, k2, f0, f1, f2, hbel, hsz⟩ := boxes3 w #[.bool bx, p] #[.bool by_, q] #[.bool false, .slice none 0 0] 136 136 136; rw [hW]; have c00 := k0 0; have c01 := k0 1; have c10 := k1 0; have c11 := k1 1; have c20 := k2 0; have c21 := k2 1; have f20 := f2 0; have f21 := f2 1; simp at c00 c01 c10 c11 c20 c21; have s20 : (W.cell? ⟨w.heap.size + 1 + 1, 0, none⟩).isSome = true := by rw [c20]; rfl
    have s21 : (W.cell? ⟨w.heap.size + 1 + 1, 1, none⟩).isSome = true := by rw [c21]; rfl
    clear k0 k1 k2 f0 f1 f2 hsz hW
    go_wp2_with (go_at_call 191; refine (compare_c p q x.natAbs y.natAbs _ (HP.out.below hbel.to) (HQ.out.below hbel.to)).mono ?_; rintro e W2 ⟨he, hbz⟩; rw [HSG.out] at he; subst he; have c00 := keep_cell hbz c00; have c01 := keep_cell hbz c01; have c10 := keep_cell hbz c10; have c11 := keep_cell hbz c11; have f20 := keep_free' hbz c20 f20; have f21 := keep_free' hbz c21 f21; have s20 := keep_some hbz s20; have s21 := keep_some hbz s21; have hbel := hbel.call hbz; clear c20 c21 hbz)
    go_region_held3 (fun w' => w'.cell? ⟨w.heap.size, 0, none⟩ = some (.bool bx) ∧ w'.cell? ⟨w.heap.size, 1, none⟩ = some p ∧ w'.cell? ⟨w.heap.size + 1, 0, none⟩ = some (.bool by_) ∧ w'.cell? ⟨w.heap.size + 1, 1, none⟩ = some q ∧ (w'.cell? ⟨w.heap.size + 1 + 1, 0, none⟩).isSome = true ∧ (w'.cell? ⟨w.heap.size + 1 + 1, 1, none⟩).isSome = true ∧ w'.frozen? ⟨w.heap.size + 1 + 1, 0, none⟩ = false ∧ w'.frozen? ⟨w.heap.size + 1 + 1, 1, none⟩ = false ∧ Bel w.heap.size w w')
      ((go_split_ands; refine ⟨?_, ?_, ?_, ?_, ?_, ?_, ?_, ?_, ?_⟩ <;> (first | assumption | exact keep_cell hbz (by assumption) | exact keep_some hbz (by assumption) | exact keep_free hbz (by assumption) (by assumption) | exact keep_free' hbz (by assumption) (by assumption) | exact Bel.call (by assumption) hbz | exact Bel.drew (by assumption) | ((repeat (first | assumption | (refine Bel.set ?_ _ (by first | (simp; done) | (simp; omega))) | refine Bel.drew ?_)); done) | exact some_set (by assumption) | exact some_set (some_set (by assumption)) | (refine set_far _ (by first | (simp; done) | (simp; omega)) (set_far _ (by first | (simp; done) | (simp; omega)) (by assumption))) | (refine set_far _ (by first | (simp; done) | (simp; omega)) (by assumption)) | (simp only [World.frozen?_setCell]; assumption) | (simp [*]; done))))
      (first
        | (go_at_call 192; refine (minus_c q p y.natAbs x.natAbs _ ?_ ?_ hn HLE.out).mono ?_; (go_split_ands; exact HQ.out.below (Bel.to (by assumption))); (go_split_ands; exact HP.out.below (Bel.to (by assumption))); rintro e w' ⟨u, rfl, hu, hfu, hbz⟩; go_must (have HF := Lib.hid (hfu.mono (Nat.succ_le_of_lt (lt_of_some (a := ⟨w.heap.size + 1 + 1, 0, none⟩) (by go_split_ands; assumption)))); have HU := Lib.hid hu; clear hu hfu))
        | (go_at_call 189; obtain ⟨Az_, nz_, cz_, hform⟩ := HU.out.form; subst hform; refine (made_c _ _ (y.natAbs - x.natAbs) _ HU.out).mono ?_; rintro e w' ⟨rfl, hbz⟩; have HV := Lib.hid (HU.out.below hbz); clear HU)
        | (go_split_ands; obtain ⟨zu0, hzu0⟩ := Option.isSome_iff_exists.1 (show (World.cell? _ ⟨w.heap.size + 1 + 1, 0, none⟩).isSome = true by assumption); obtain ⟨zu1, hzu1⟩ := Option.isSome_iff_exists.1 (show (World.cell? _ ⟨w.heap.size + 1 + 1, 1, none⟩).isSome = true by assumption); go_simp))
    go_wp2
    go_split_ands
    refine bodyPost_ret (v := .agg #[.bool (by_ && decide (0 < y.natAbs - x.natAbs)), .slice Az_ nz_ cz_]) (by simp [results, Tryz.results142, go_sem, hzu0, hzu1]) rfl ?_
    obtain ⟨h1, h2, h3⟩ := HBX.out
    refine whPN_mk ?_ ?_ (HF.out.mono (by omega)) (Bel.to (by assumption))
    · exact (add_sign_lt h1 h2 h3 HNL.out).2
    · rw [← (add_sign_lt h1 h2 h3 HNL.out).1]; exact Dg.set (Dg.set HV.out HF.out (by simp) _) HF.out (by simp) _

theorem add_c (v1 v2 : Value) (x y : Int) (w : World) (h1 : Wh w v1 x) (h2 : Wh w v2 y) (hm : (dg 1000000000 x.natAbs).length ≤ 1000000) (hn : (dg 1000000000 y.natAbs).length ≤ 1000000) :
    Calls Tryz.prog 142 #[v1, v2] w (WhPN (x + y) w) := by
  by_cases h : decide (x < 0) = decide (y < 0)
  · exact add_same v1 v2 x y w h1 h2 hm hn h
  · exact add_diff v1 v2 x y w h1 h2 hm hn h

end Go.Proofs.YtekbfommnmikbaaGreatDoor

namespace Go.Proofs.YtekbfommnmikbaaGreatDoor
set_option linter.unusedVariables false
set_option linter.unusedSimpArgs false
open Go.RowKit
attribute [local go_sem] max2_int min2_int max_two min_two

theorem neg_sign (x : Int) : (!decide (x < 0) && decide (0 < x.natAbs)) = decide (-x < 0) := by
  rcases Int.lt_trichotomy x 0 with h | h | h
  · rw [decide_eq_true h, decide_eq_false (by omega : ¬ -x < 0)]; rfl
  · subst h; rfl
  · rw [decide_eq_false (by omega : ¬ x < 0), decide_eq_true (by omega : -x < 0), decide_eq_true (by omega : 0 < x.natAbs)]; rfl

set_option maxHeartbeats 2000000 in
theorem negN_c (k : Nat) (v1 : Value) (x : Int) (w : World) (h1 : WhN k w v1 x) : Calls Tryz.prog 143 #[v1] w fun e w' => ∃ v, e = .returned v ∧ WhN k w' v (-x) ∧ Below w.heap.size w w' := by
  obtain ⟨p, rfl, hp, hk⟩ := h1
  have HKB := Lib.hid hk
  clear hk
  have HP := Lib.hid hp
  obtain ⟨A, n, c, rfl⟩ := hp.form
  clear hp
  generalize hbx : decide (x < 0) = bx at *
  have HBX := Lib.hid hbx
  clear hbx
  go_enter Tryz.func143, Tryz.ntmps143
  go_wp2_with fail
  obtain ⟨W, hW, k0, k1, f0, f1, hbel, hsz⟩ := boxes2 w #[.bool bx, .slice A n c] #[.bool false, .slice none 0 0] 136 136
  rw [hW]
  have c00 := k0 0; have c01 := k0 1; have c10 := k1 0; have c11 := k1 1; have f10 := f1 0; have f11 := f1 1
  simp at c00 c01 c10 c11
  clear k0 k1 f0 f1 hW
  go_wp2_with (go_at_call 189; refine (made_c _ _ x.natAbs _ (HP.out.below hbel.to)).mono ?_; rintro e W2 ⟨rfl, hbz⟩; have d10 := keep_cell hbz c10; have d11 := keep_cell hbz c11; have g10 := keep_free' hbz c10 f10; have g11 := keep_free' hbz c11 f11; have HB := Lib.hid (hbel.call hbz); clear hbz)
  refine bodyPost_ret (v := .agg #[.bool (!bx && decide (0 < x.natAbs)), .slice A n c]) (by simp [results, Tryz.results143, go_sem, d10, d11]) rfl ?_
  have hB : ∀ b v, Below w.heap.size w ((W2.setCell ⟨w.heap.size + 1, 0, none⟩ b).setCell ⟨w.heap.size + 1, 1, none⟩ v) := fun b v => ((HB.out.set (a := ⟨w.heap.size + 1, 0, none⟩) b (by simp)).set (a := ⟨w.heap.size + 1, 1, none⟩) v (by simp)).to
  exact ⟨_, rfl, ⟨_, by rw [show (!bx && decide (0 < x.natAbs)) = decide (-x < 0) from by rw [← HBX.out]; exact neg_sign x], by rw [Int.natAbs_neg]; exact HP.out.below (hB _ _), HKB.out⟩, hB _ _⟩

theorem Wh.zero {w : World} {v : Value} {z : Int} (h : Wh w v z) : WhN 0 w v z := by
  obtain ⟨p, e, hp⟩ := h
  exact ⟨p, e, hp, fun _ _ => Nat.zero_le _⟩
theorem negative_c (v1 : Value) (x : Int) (w : World) (h1 : Wh w v1 x) : Calls Tryz.prog 143 #[v1] w (WhP (-x) w) := by
  refine (negN_c 0 v1 x w h1.zero).mono ?_
  rintro e w' ⟨v, rfl, h, hb⟩
  exact ⟨v, rfl, h.wh, hb⟩

set_option maxHeartbeats 2000000 in
theorem signum_c (v1 : Value) (x : Int) (w : World) (h1 : Wh w v1 x) (hl : (dg 1000000000 x.natAbs).length ≤ 1000000) : Calls Tryz.prog 144 #[v1] w fun e w' => e = .returned (.int .i64 (sgn x)) ∧ Below w.heap.size w w' := by
  obtain ⟨p, rfl, hp⟩ := h1
  have hz : (dg 1000000000 x.natAbs).length = 0 ↔ x = 0 := by rw [List.length_eq_zero_iff, dg_eq_nil (by decide)]; omega
  obtain ⟨A, c, rfl, hlc, hcm, hr⟩ := hp
  clear hr
  by_cases h : x < 0
  · have hd : decide (x < 0) = true := by simp [h]
    rw [hd]
    go_enter Tryz.func144, Tryz.ntmps144
    go_wp2_with fail
    go_ret
    exact ⟨by rw [sgn_lt h]; rfl, (by repeat (first | exact Below.refl _ _ | exact HB.out | (refine Below.alloc ?_ (by first | (simp; done) | (simp; omega)) _) | (refine Below.setCell ?_ (by first | (simp; done) | (simp; omega)) _) | refine Below.drew ?_ | refine below_drewN ?_ _))⟩
  · have hd : decide (x < 0) = false := by simp [h]
    rw [hd]
    have HZ := Lib.hid hz
    generalize (dg 1000000000 x.natAbs).length = L at *
    clear hz hd
    go_enter Tryz.func144, Tryz.ntmps144
    go_wp2_with (go_at_call 193; refine (sign_c _ _).mono ?_; rintro e w' ⟨rfl, rfl⟩)
    go_ret
    refine ⟨?_, (by repeat (first | exact Below.refl _ _ | exact HB.out | (refine Below.alloc ?_ (by first | (simp; done) | (simp; omega)) _) | (refine Below.setCell ?_ (by first | (simp; done) | (simp; omega)) _) | refine Below.drew ?_ | refine below_drewN ?_ _))⟩
    rcases Nat.eq_zero_or_pos L with h0 | h0
    · rw [HZ.out.1 h0, h0]; rfl
    · have : x ≠ 0 := fun e => by have := HZ.out.2 e; omega
      rw [sgn_gt (by omega), sgn_gt (by omega)]; rfl

/-- What a failure's panic carries. -/
def failChain (k : Int) : List PanicEntry := [{ v := .iface 198 (.agg #[.int .i64 k]), recovered := false }]

theorem nDigits_le {u k : Nat} (hk : 0 < k) : Lib.nDigits u ≤ k ↔ u < 10 ^ k := by
  constructor
  · intro h
    exact Nat.lt_of_lt_of_le (Lib.lt_pow_nDigits u) (Nat.pow_le_pow_right (by decide) h)
  · intro h
    rcases Nat.lt_or_ge k (Lib.nDigits u) with h' | h'
    · exfalso
      have key : ∀ k u, k < Lib.nDigits u → 0 < k → 10 ^ k ≤ u := by
        intro k
        induction k with
        | zero => intro u _ h; omega
        | succ k ih =>
          intro u h _
          by_cases hu : u < 10
          · rw [Lib.nDigits_small hu] at h; omega
          · rw [Lib.nDigits_big hu] at h
            rcases Nat.eq_zero_or_pos k with rfl | hk
            · simpa using (by omega : 10 ≤ u)
            · have := ih (u / 10) (by omega) hk
              rw [Nat.pow_succ]; omega
      have := key k u h' hk
      omega
    · exact h'

/-- How text ends. -/
def textEnd (x : Int) : Ending := if x.natAbs < 10 ^ 200 then .returned (.string ⟨(Lib.itoa x).toArray⟩) else .panicked (failChain 3)

set_option maxHeartbeats 2000000 in
theorem text_c (v1 : Value) (x : Int) (w : World) (h1 : Wh w v1 x) (ht : Tabs w) (hl : (dg 1000000000 x.natAbs).length ≤ 1000000) : Calls Tryz.prog 149 #[v1] w fun e w' => e = textEnd x ∧ Below w.heap.size w w' := by
  obtain ⟨p, rfl, hp⟩ := h1
  have HP := Lib.hid hp
  obtain ⟨A, n, c, rfl⟩ := hp.form
  have HT := Lib.hid ht
  clear hp ht
  obtain ⟨S, hS⟩ : ∃ S : ByteArray, ⟨(Lib.decDigits x.natAbs).toArray⟩ = S := ⟨_, rfl⟩
  have hss : S.size = (Lib.decDigits x.natAbs).length := by rw [← hS]; simp [ByteArray.size]
  have HSS := Lib.hid hS
  have HL := Lib.hid hl
  have hbig : x.natAbs < 10 ^ 200 ↔ ¬ 200 < S.size := by rw [hss, Lib.decDigits_length, Nat.not_lt]; exact (nDigits_le (by decide)).symm
  unfold textEnd
  clear hss hl
  by_cases h2 : 200 < S.size
  · rw [if_neg (fun h => hbig.1 h h2)]
    generalize hbx : decide (x < 0) = bx at *
    have HBX := Lib.hid hbx
    clear hbx hbig hS
    go_enter Tryz.func149, Tryz.ntmps149
    go_wp2_with fail
    obtain ⟨W, hW, k0, f0, hbel, hsz⟩ := boxes1 w #[.bool bx, .slice A n c] 136
    rw [hW]
    have c00 := k0 0; have c01 := k0 1
    simp at c00 c01
    clear k0 f0 hW
    go_wp2_with (go_at_call 196; refine (string_c _ x.natAbs _ (HP.out.below hbel.to) (HT.out.below hbel.to) HL.out).mono ?_; rintro e W2 ⟨rfl, hbz⟩; rw [HSS.out]; have d00 := keep_cell hbz c00; have HB := Lib.hid (hbel.call hbz); clear hbz)
    exact ⟨rfl, rfl, HB.out.to⟩
  · rw [if_pos (hbig.2 h2)]
    have HEQ : Hid ((⟨(Lib.itoa x).toArray⟩ : ByteArray) = if x < 0 then ⟨#[45]⟩ ++ S else S) := by
      show _ = _
      rw [← hS]
      by_cases hx : x < 0
      · rw [if_pos hx]
        apply ByteArray.ext
        rw [ByteArray.data_append]
        simp [Lib.itoa, hx]
      · rw [if_neg hx]; simp only [Lib.itoa, if_neg hx]; congr 3; omega
    by_cases hx : x < 0
    · have hd : decide (x < 0) = true := by simp [hx]
      rw [hd]
      rw [if_pos hx] at HEQ
      rw [HEQ.out]
      clear hbig hS hd hx HEQ
      go_enter Tryz.func149, Tryz.ntmps149
      go_wp2_with fail
      obtain ⟨W, hW, k0, f0, hbel, hsz⟩ := boxes1 w #[.bool true, .slice A n c] 136
      rw [hW]
      have c00 := k0 0; have c01 := k0 1
      simp at c00 c01
      clear k0 f0 hW
      go_wp2_with (go_at_call 196; refine (string_c _ x.natAbs _ (HP.out.below hbel.to) (HT.out.below hbel.to) HL.out).mono ?_; rintro e W2 ⟨rfl, hbz⟩; rw [HSS.out]; have d00 := keep_cell hbz c00; have HB := Lib.hid (hbel.call hbz); clear hbz)
      go_ret
      exact ⟨rfl, HB.out.to⟩
    · have hd : decide (x < 0) = false := by simp [hx]
      rw [hd]
      rw [if_neg hx] at HEQ
      rw [HEQ.out]
      clear hbig hS hd hx HEQ
      go_enter Tryz.func149, Tryz.ntmps149
      go_wp2_with fail
      obtain ⟨W, hW, k0, f0, hbel, hsz⟩ := boxes1 w #[.bool false, .slice A n c] 136
      rw [hW]
      have c00 := k0 0; have c01 := k0 1
      simp at c00 c01
      clear k0 f0 hW
      go_wp2_with (go_at_call 196; refine (string_c _ x.natAbs _ (HP.out.below hbel.to) (HT.out.below hbel.to) HL.out).mono ?_; rintro e W2 ⟨rfl, hbz⟩; rw [HSS.out]; have d00 := keep_cell hbz c00; have HB := Lib.hid (hbel.call hbz); clear hbz)
      go_ret
      exact ⟨rfl, HB.out.to⟩

end Go.Proofs.YtekbfommnmikbaaGreatDoor
/- Plain mathematics of rounding to 12 digits. No program in sight. -/
namespace Go.Proofs.YtekbfommnmikbaaGreatDoor
set_option linter.unusedVariables false
set_option linter.unusedSimpArgs false

/-- The number of some digits, the greatest one first. -/
def vd : List Int → Int
  | [] => 0
  | d :: l => d * 10 ^ l.length + vd l
theorem vd_cons (d : Int) (l : List Int) : vd (d :: l) = d * 10 ^ l.length + vd l := rfl
theorem vd_append : ∀ (l m : List Int), vd (l ++ m) = vd l * 10 ^ m.length + vd m
  | [], m => by simp [vd]
  | d :: l, m => by
    rw [List.cons_append, vd_cons, vd_cons, vd_append l m, List.length_append, Int.pow_add]
    grind
theorem vd_snoc (l : List Int) (d : Int) : vd (l ++ [d]) = 10 * vd l + d := by
  rw [vd_append]; simp [vd]; omega
theorem vd_zeros (k : Nat) : vd (List.replicate k 0) = 0 := by
  induction k with
  | zero => rfl
  | succ k ih => rw [List.replicate_succ, vd_cons, ih]; omega
theorem vd_nonneg {l : List Int} (h : InR 10 l) : 0 ≤ vd l := by
  induction l with
  | nil => exact Int.le_refl _
  | cons d l ih =>
    have h1 := (h d (List.mem_cons_self ..)).1
    have h2 := ih h.tail
    have h3 : (0 : Int) ≤ 10 ^ l.length := Int.le_of_lt (Int.pow_pos (by omega))
    have := Int.mul_nonneg h1 h3
    rw [vd_cons]; omega
theorem vd_lt {l : List Int} (h : InR 10 l) : vd l < 10 ^ l.length := by
  induction l with
  | nil => show (0 : Int) < 1; omega
  | cons d l ih =>
    have h1 := (h d (List.mem_cons_self ..)).2
    have h2 := ih h.tail
    rw [vd_cons, List.length_cons, Int.pow_succ]
    have h3 : (0 : Int) < 10 ^ l.length := Int.pow_pos (by omega)
    have h4 : d ≤ 9 := by have : d < 10 := h1; omega
    have := Int.mul_le_mul_of_nonneg_right h4 (Int.le_of_lt h3)
    omega
theorem vd_rev (l : List Int) : vd l.reverse = val 10 l := by
  induction l with
  | nil => rfl
  | cons d l ih => rw [List.reverse_cons, vd_snoc, ih, val_cons]; omega
theorem vd_dg (n : Nat) : vd (dg 10 n).reverse = (n : Int) := by rw [vd_rev, val_dg (by decide)]
theorem inR_reverse {l : List Int} (h : InR 10 l) : InR 10 l.reverse := fun x hx => h x (List.mem_reverse.1 hx)
theorem vd_nat {l : List Int} (h : InR 10 l) : ((vd l).toNat : Int) = vd l := Int.toNat_of_nonneg (vd_nonneg h)

/-- How many digits. -/
def nd (n : Nat) : Nat := (dg 10 n).length
theorem nd_zero : nd 0 = 0 := by unfold nd; rw [dg_zero]; rfl
theorem nd_le (n k : Nat) : nd n ≤ k ↔ n < 10 ^ k := dg_length_le (by decide) n k
theorem nd_gt (n k : Nat) : k < nd n ↔ 10 ^ k ≤ n := dg_length_lt (by decide) n k
theorem nd_eq {n k : Nat} (h1 : 10 ^ k ≤ n) (h2 : n < 10 ^ (k + 1)) : nd n = k + 1 := by
  have a := (nd_gt n k).2 h1
  have b := (nd_le n (k + 1)).2 h2
  omega
theorem nd_pos {n : Nat} (h : 0 < n) : 0 < nd n := (nd_gt n 0).2 (by rw [Nat.pow_zero]; exact h)
theorem lt_nd (n : Nat) : n < 10 ^ nd n := (nd_le n _).1 (Nat.le_refl _)
theorem nd_low {n : Nat} (h : 0 < n) : 10 ^ (nd n - 1) ≤ n := (nd_gt n _).1 (by have := nd_pos h; omega)
theorem nd_pow {n : Nat} (h : 0 < n) (k : Nat) : nd (n * 10 ^ k) = nd n + k := by
  have a := nd_pos h
  have b := nd_low h
  have c := lt_nd n
  obtain ⟨j, hj⟩ : ∃ j, nd n = j + 1 := ⟨nd n - 1, by omega⟩
  rw [hj] at b c ⊢
  rw [show j + 1 - 1 = j from rfl] at b
  rw [show j + 1 + k = (j + k) + 1 by omega]
  refine nd_eq ?_ ?_
  · rw [Nat.pow_add]; exact Nat.mul_le_mul_right _ b
  · rw [show j + k + 1 = (j + 1) + k by omega, Nat.pow_add]; exact Nat.mul_lt_mul_of_pos_right c (Nat.pow_pos (by decide))
theorem nd_vd {d : Int} {l : List Int} (h : InR 10 (d :: l)) (hd : d ≠ 0) : nd (vd (d :: l)).toNat = l.length + 1 := by
  have h1 := vd_nat h
  have h2 := vd_lt h
  have h0 := (h d (List.mem_cons_self ..)).1
  have h3 := vd_nonneg h.tail
  have hp : (0 : Int) < 10 ^ l.length := Int.pow_pos (by omega)
  have h4 := Int.mul_le_mul_of_nonneg_right (show (1 : Int) ≤ d by omega) (Int.le_of_lt hp)
  refine nd_eq ?_ ?_
  · have : ((10 ^ l.length : Nat) : Int) ≤ ((vd (d :: l)).toNat : Int) := by rw [h1, vd_cons, Int.natCast_pow]; simp only [Int.cast_ofNat_Int]; omega
    exact_mod_cast this
  · have : ((vd (d :: l)).toNat : Int) < ((10 ^ (l.length + 1) : Nat) : Int) := by rw [h1, Int.natCast_pow]; exact h2
    exact_mod_cast this

/-- 1 if what stands behind a point is more than a half, or a half behind an odd number. -/
def halfUp (r k q : Nat) : Nat := if 10 ^ k < 2 * r ∨ (2 * r = 10 ^ k ∧ q % 2 = 1) then 1 else 0
/-- n / 10^k, rounded. -/
def rdiv (n k : Nat) : Nat := n / 10 ^ k + halfUp (n % 10 ^ k) k (n / 10 ^ k)
/-- The 12 digits. -/
def man12 (n : Nat) : Nat := if nd n < 12 then n * 10 ^ (12 - nd n) else rdiv n (nd n - 12)
/-- A Man and an exponent, after the carry; none if too large. -/
def fit (m : Nat) (x : Int) : Option (Nat × Int) := if m = 1000000000000 then (if 88 < x + 1 then none else some (100000000000, x + 1)) else if 88 < x then none else some (m, x)
/-- The rounded value of n times 10^e. -/
def rnd (n : Nat) (e : Int) : Option (Nat × Int) :=
  if n = 0 ∨ (nd n : Int) + e < -100 then some (0, 0)
  else if (nd n : Int) + e = -100 then (if 10 ^ nd n < 2 * n then some (100000000000, -111) else some (0, 0))
  else fit (man12 n) ((nd n : Int) - 12 + e)

theorem half_mul (r k q j : Nat) : halfUp (r * 10 ^ j) (k + j) q = halfUp r k q := by
  unfold halfUp
  have hp : 0 < 10 ^ j := Nat.pow_pos (by decide)
  have e1 : (10 ^ (k + j) < 2 * (r * 10 ^ j)) ↔ 10 ^ k < 2 * r := by
    rw [Nat.pow_add, ← Nat.mul_assoc]; exact Nat.mul_lt_mul_right hp
  have e2 : (2 * (r * 10 ^ j) = 10 ^ (k + j)) ↔ 2 * r = 10 ^ k := by
    rw [Nat.pow_add, ← Nat.mul_assoc]; exact ⟨fun h => Nat.eq_of_mul_eq_mul_right hp h, fun h => by rw [h]⟩
  simp only [e1, e2]
theorem rdiv_mul (n k j : Nat) : rdiv (n * 10 ^ j) (k + j) = rdiv n k := by
  unfold rdiv
  have hp : 0 < 10 ^ j := Nat.pow_pos (by decide)
  have e1 : n * 10 ^ j / 10 ^ (k + j) = n / 10 ^ k := by rw [Nat.pow_add]; exact Nat.mul_div_mul_right _ _ hp
  have e2 : n * 10 ^ j % 10 ^ (k + j) = n % 10 ^ k * 10 ^ j := by rw [Nat.pow_add]; exact Nat.mul_mod_mul_right _ _ _
  rw [e1, e2, half_mul]
theorem rdiv_zero (n : Nat) : rdiv n 0 = n := by unfold rdiv halfUp; simp [Nat.mod_one]
theorem man12_mul {n : Nat} (h : 0 < n) (j : Nat) : man12 (n * 10 ^ j) = man12 n := by
  unfold man12
  rw [nd_pow h]
  by_cases h1 : nd n + j < 12
  · rw [if_pos h1, if_pos (by omega), Nat.mul_assoc, ← Nat.pow_add]; congr 2; omega
  · rw [if_neg h1]
    by_cases h2 : nd n < 12
    · rw [if_pos h2]
      have e : n * 10 ^ j = n * 10 ^ (12 - nd n) * 10 ^ (nd n + j - 12) := by rw [Nat.mul_assoc, ← Nat.pow_add]; congr 2; omega
      have e2 := rdiv_mul (n * 10 ^ (12 - nd n)) 0 (nd n + j - 12)
      rw [Nat.zero_add] at e2
      rw [e, e2, rdiv_zero]
    · rw [if_neg h2, show nd n + j - 12 = (nd n - 12) + j by omega, rdiv_mul]
/-- Zeros at the end change nothing. -/
theorem rnd_mul (n j : Nat) (e : Int) : rnd (n * 10 ^ j) (e - j) = rnd n e := by
  by_cases h0 : n = 0
  · subst h0; simp [rnd]
  have h : 0 < n := by omega
  have hp : 0 < 10 ^ j := Nat.pow_pos (by decide)
  have hm : 0 < n * 10 ^ j := Nat.mul_pos h hp
  unfold rnd
  rw [nd_pow h, man12_mul h]
  have e1 : ((nd n + j : Nat) : Int) + (e - j) = (nd n : Int) + e := by omega
  have e2 : ((nd n + j : Nat) : Int) - 12 + (e - j) = (nd n : Int) - 12 + e := by omega
  have e3 : (10 ^ (nd n + j) < 2 * (n * 10 ^ j)) ↔ 10 ^ nd n < 2 * n := by
    rw [Nat.pow_add, ← Nat.mul_assoc]; exact Nat.mul_lt_mul_right hp
  have e4 : (n * 10 ^ j = 0) ↔ n = 0 := by omega
  simp only [e1, e2, e3, e4]

/-- What near makes of the digits behind a point. -/
def nearV (l : List Int) (q : Nat) : Nat := halfUp (vd l).toNat l.length q
theorem near_nil (q : Nat) : nearV [] q = 0 := by unfold nearV halfUp; simp [vd]
theorem near_less {d : Int} {l : List Int} (h : InR 10 (d :: l)) (hd : d < 5) (q : Nat) : nearV (d :: l) q = 0 := by
  unfold nearV halfUp
  have h1 := vd_nat h
  have h2 := vd_lt h.tail
  have hp : (0 : Int) < 10 ^ l.length := Int.pow_pos (by omega)
  have h4 := Int.mul_le_mul_of_nonneg_right (show d ≤ 4 by omega) (Int.le_of_lt hp)
  have h5 : 2 * ((vd (d :: l)).toNat : Int) < ((10 ^ (l.length + 1) : Nat) : Int) := by rw [h1, vd_cons, Int.natCast_pow, Int.pow_succ]; simp only [Int.cast_ofNat_Int]; omega
  have h6 : 2 * (vd (d :: l)).toNat < 10 ^ (l.length + 1) := by exact_mod_cast h5
  rw [List.length_cons]
  rw [if_neg (by omega)]
theorem near_more {d : Int} {l : List Int} (h : InR 10 (d :: l)) (hd : 5 < d ∨ (5 ≤ d ∧ 0 < vd l)) (q : Nat) : nearV (d :: l) q = 1 := by
  unfold nearV halfUp
  have h1 := vd_nat h
  have h2 := vd_nonneg h.tail
  have hp : (0 : Int) < 10 ^ l.length := Int.pow_pos (by omega)
  have h5 : ((10 ^ (l.length + 1) : Nat) : Int) < 2 * ((vd (d :: l)).toNat : Int) := by
    rw [h1, vd_cons, Int.natCast_pow, Int.pow_succ]; simp only [Int.cast_ofNat_Int]
    rcases hd with hd | ⟨hd, hv⟩
    · have h4 := Int.mul_le_mul_of_nonneg_right (show (6 : Int) ≤ d by omega) (Int.le_of_lt hp); omega
    · have h4 := Int.mul_le_mul_of_nonneg_right hd (Int.le_of_lt hp); omega
  have h6 : 10 ^ (l.length + 1) < 2 * (vd (d :: l)).toNat := by exact_mod_cast h5
  rw [List.length_cons, if_pos (.inl h6)]
theorem near_half {l : List Int} (hv : vd l = 0) (q : Nat) : nearV (5 :: l) q = if q % 2 = 1 then 1 else 0 := by
  unfold nearV halfUp
  have h5 : 2 * vd (5 :: l) = 10 ^ (l.length + 1) := by rw [vd_cons, hv, Int.pow_succ]; omega
  have hp : (0 : Int) < 10 ^ (l.length + 1) := Int.pow_pos (by omega)
  have h6 : 2 * ((vd (5 :: l)).toNat : Int) = ((10 ^ (l.length + 1) : Nat) : Int) := by rw [Int.toNat_of_nonneg (by omega), Int.natCast_pow]; exact h5
  have h7 : 2 * (vd (5 :: l)).toNat = 10 ^ (l.length + 1) := by exact_mod_cast h6
  rw [List.length_cons, h7]
  simp
theorem vd_some {l : List Int} (h : InR 10 l) : 0 < vd l ↔ ∃ x ∈ l, 0 < x := by
  induction l with
  | nil => simp [vd]
  | cons d l ih =>
    have hp : (0 : Int) < 10 ^ l.length := Int.pow_pos (by omega)
    have h0 := (h d (List.mem_cons_self ..)).1
    have h2 := vd_nonneg h.tail
    have h3 := Int.mul_nonneg h0 (Int.le_of_lt hp)
    rw [vd_cons]
    constructor
    · intro hv
      by_cases hd : 0 < d
      · exact ⟨d, List.mem_cons_self .., hd⟩
      · obtain rfl : d = 0 := by omega
        obtain ⟨x, hx, hx0⟩ := (ih h.tail).1 (by omega)
        exact ⟨x, List.mem_cons_of_mem _ hx, hx0⟩
    · rintro ⟨x, hx, hx0⟩
      rcases List.mem_cons.1 hx with rfl | hx
      · have := Int.mul_pos hx0 hp; omega
      · have := (ih h.tail).2 ⟨x, hx, hx0⟩; omega

/-- The digits cut behind the twelfth. -/
theorem rdiv_cut {l : List Int} (h : InR 10 l) (j : Nat) (hj : j ≤ l.length) :
    (vd (l.take j)).toNat + nearV (l.drop j) (vd (l.take j)).toNat = rdiv (vd l).toNat (l.length - j) := by
  have ht := vd_nat (h.take j)
  have hd := vd_nat (h.drop j)
  have hl := vd_nat h
  have hlt := vd_lt (h.drop j)
  have e : vd l = vd (l.take j) * 10 ^ (l.drop j).length + vd (l.drop j) := by
    have := vd_append (l.take j) (l.drop j)
    rw [List.take_append_drop] at this
    exact this
  obtain ⟨T, hT⟩ : ∃ T, (vd (l.take j)).toNat = T := ⟨_, rfl⟩
  obtain ⟨D, hD⟩ : ∃ D, (vd (l.drop j)).toNat = D := ⟨_, rfl⟩
  obtain ⟨N, hN⟩ : ∃ N, (vd l).toNat = N := ⟨_, rfl⟩
  rw [hT] at ht; rw [hD] at hd; rw [hN] at hl
  rw [← ht, ← hd, ← hl] at e
  rw [← hd] at hlt
  have hk : (l.drop j).length = l.length - j := by simp
  rw [hk] at e hlt
  have e' : N = T * 10 ^ (l.length - j) + D := by exact_mod_cast e
  have hlt' : D < 10 ^ (l.length - j) := by exact_mod_cast hlt
  unfold nearV rdiv
  rw [hT, hN, hD, hk]
  have hp : 0 < 10 ^ (l.length - j) := Nat.pow_pos (by decide)
  have q1 : N / 10 ^ (l.length - j) = T := by rw [e', Nat.mul_comm, Nat.mul_add_div hp, Nat.div_eq_of_lt hlt']; rfl
  have q2 : N % 10 ^ (l.length - j) = D := by rw [e', Nat.mul_comm, Nat.mul_add_mod, Nat.mod_eq_of_lt hlt']
  rw [q1, q2]

/-- Without the zeros ahead. -/
def strip : List Int → List Int
  | [] => []
  | d :: l => if d = 0 then strip l else d :: l
theorem strip_vd (l : List Int) : vd (strip l) = vd l := by
  induction l with
  | nil => rfl
  | cons d l ih =>
    unfold strip
    split
    · rename_i h; rw [ih, vd_cons, h]; omega
    · rfl
theorem strip_nil {l : List Int} (h : InR 10 l) : strip l = [] ↔ vd l = 0 := by
  induction l with
  | nil => simp [strip, vd]
  | cons d l ih =>
    unfold strip
    split
    · rename_i h0; rw [ih h.tail, vd_cons, h0]; omega
    · rename_i h0
      have h1 := (h d (List.mem_cons_self ..)).1
      have h2 := vd_nonneg h.tail
      have hp : (0 : Int) < 10 ^ l.length := Int.pow_pos (by omega)
      have h3 := Int.mul_pos (show 0 < d by omega) hp
      rw [vd_cons]
      constructor
      · intro e; cases e
      · intro e; omega
/-- The 12 digits and what near adds. -/
theorem man12_of {d : Int} {l p : List Int} (h : InR 10 (d :: l)) (hd : d ≠ 0) (hp : p = (d :: l) ++ List.replicate (12 - (l.length + 1)) 0) :
    InR 10 p ∧ 12 ≤ p.length ∧ (vd (p.take 12)).toNat + nearV (p.drop 12) (vd (p.take 12)).toNat = man12 (vd (d :: l)).toNat := by
  have hn := nd_vd h hd
  have hi : InR 10 p := by rw [hp]; exact h.append (InR.replicate (by decide) _)
  have hl : p.length = l.length + 1 + (12 - (l.length + 1)) := by rw [hp, List.length_append, List.length_replicate, List.length_cons]
  refine ⟨hi, by omega, ?_⟩
  have hv : (vd p).toNat = (vd (d :: l)).toNat * 10 ^ (12 - (l.length + 1)) := by
    have h1 := vd_nat hi
    have h2 := vd_nat h
    have e : vd p = vd (d :: l) * 10 ^ (12 - (l.length + 1)) := by rw [hp, vd_append, vd_zeros, List.length_replicate]; omega
    rw [← h1, ← h2] at e
    exact_mod_cast e
  rw [rdiv_cut hi 12 (by omega), hv, hl]
  unfold man12
  rw [hn]
  by_cases hc : l.length + 1 < 12
  · rw [if_pos hc, show l.length + 1 + (12 - (l.length + 1)) - 12 = 0 by omega, rdiv_zero]
  · rw [if_neg hc, show 12 - (l.length + 1) = 0 by omega, Nat.pow_zero, Nat.mul_one]

theorem half_le (r k q : Nat) : halfUp r k q ≤ 1 := by unfold halfUp; split <;> omega
theorem man12_rng {n : Nat} (h : 0 < n) : 100000000000 ≤ man12 n ∧ man12 n ≤ 1000000000000 := by
  have a := nd_low h
  have b := lt_nd n
  have hp := nd_pos h
  unfold man12
  split
  · rename_i hc
    obtain ⟨j, hj⟩ : ∃ j, nd n = j + 1 := ⟨nd n - 1, by omega⟩
    rw [hj] at a b hc ⊢
    have e1 : 10 ^ j * 10 ^ (12 - (j + 1)) = 100000000000 := by rw [← Nat.pow_add, show j + (12 - (j + 1)) = 11 by omega]
    have e2 : 10 ^ (j + 1) * 10 ^ (12 - (j + 1)) = 1000000000000 := by rw [← Nat.pow_add, show j + 1 + (12 - (j + 1)) = 12 by omega]
    have h1 := Nat.mul_le_mul_right (10 ^ (12 - (j + 1))) a
    have h2 := Nat.mul_le_mul_right (10 ^ (12 - (j + 1))) (Nat.le_of_lt b)
    rw [show j + 1 - 1 = j from rfl, e1] at h1
    rw [e2] at h2
    exact ⟨h1, h2⟩
  · rename_i hc
    obtain ⟨j, hj⟩ : ∃ j, nd n = j + 12 := ⟨nd n - 12, by omega⟩
    rw [hj] at a b ⊢
    rw [show j + 12 - 12 = j by omega]
    unfold rdiv
    have hh := half_le (n % 10 ^ j) j (n / 10 ^ j)
    have hq1 : 100000000000 ≤ n / 10 ^ j := by
      rw [Nat.le_div_iff_mul_le (Nat.pow_pos (by decide))]
      rw [show j + 12 - 1 = 11 + j by omega, Nat.pow_add] at a
      exact a
    have hq2 : n / 10 ^ j < 1000000000000 := by
      rw [Nat.div_lt_iff_lt_mul (Nat.pow_pos (by decide))]
      rw [show j + 12 = 12 + j by omega, Nat.pow_add] at b
      exact b
    omega
/-- A real's parts: 0, or 12 digits and an exponent that is not too great. -/
def RV (m : Nat) (x : Int) : Prop := (m = 0 ∧ x = 0) ∨ (100000000000 ≤ m ∧ m < 1000000000000 ∧ -111 ≤ x ∧ x ≤ 88)
theorem rnd_valid {n : Nat} {e : Int} {m : Nat} {x : Int} (h : rnd n e = some (m, x)) : RV m x := by
  unfold rnd at h
  split at h
  · cases h; exact .inl ⟨rfl, rfl⟩
  · rename_i h1
    split at h
    · split at h
      · cases h; exact .inr ⟨by omega, by omega, by omega, by omega⟩
      · cases h; exact .inl ⟨rfl, rfl⟩
    · rename_i h2
      have := man12_rng (n := n) (by omega)
      unfold fit at h
      split at h
      · split at h
        · cases h
        · cases h; exact .inr ⟨by omega, by omega, by omega, by omega⟩
      · split at h
        · cases h
        · cases h; exact .inr ⟨by omega, by omega, by omega, by omega⟩
theorem rnd_zero (e : Int) : rnd 0 e = some (0, 0) := by unfold rnd; rw [if_pos (.inl rfl)]
theorem nd_man {m : Nat} (h1 : 100000000000 ≤ m) (h2 : m < 1000000000000) : nd m = 12 := nd_eq (k := 11) h1 h2
/-- 12 digits are rounded already. -/
theorem rnd_man {m : Nat} (h1 : 100000000000 ≤ m) (h2 : m < 1000000000000) (e : Int) :
    rnd m e = if e < -112 then some (0, 0) else if e = -112 then (if 500000000000 < m then some (100000000000, -111) else some (0, 0)) else if 88 < e then none else some (m, e) := by
  have hn := nd_man h1 h2
  have hm : man12 m = m := by unfold man12; rw [hn, if_neg (by omega), rdiv_zero]
  unfold rnd fit
  rw [hn, hm]
  by_cases c1 : e < -112
  · rw [if_pos (by omega), if_pos c1]
  · rw [if_neg (by omega), if_neg c1]
    by_cases c2 : e = -112
    · rw [if_pos (by omega), if_pos c2]
      by_cases c3 : 500000000000 < m
      · rw [if_pos c3, if_pos (by show 1000000000000 < _; omega)]
      · rw [if_neg c3, if_neg (by show ¬ 1000000000000 < _; omega)]
    · rw [if_neg (by omega), if_neg c2, if_neg (by omega), show ((12 : Nat) : Int) - 12 + e = e by omega]
theorem rnd_self {m : Nat} {x : Int} (h : RV m x) : rnd m x = some (m, x) := by
  rcases h with ⟨rfl, rfl⟩ | ⟨h1, h2, h3, h4⟩
  · exact rnd_zero _
  · rw [rnd_man h1 h2, if_neg (by omega), if_neg (by omega), if_neg (by omega)]

end Go.Proofs.YtekbfommnmikbaaGreatDoor
/- Plain mathematics of exact results: columns, quotients, roots. No program in sight. -/
namespace Go.Proofs.YtekbfommnmikbaaGreatDoor
set_option linter.unusedVariables false
set_option linter.unusedSimpArgs false

/-- All columns are small. -/
def TB (B : Int) (t : List Int) : Prop := ∀ x ∈ t, -B ≤ x ∧ x ≤ B
theorem TB.at_ {B : Int} {t : List Int} (h : TB B t) (hB : 0 ≤ B) (j : Nat) : -B ≤ t[j]?.getD 0 ∧ t[j]?.getD 0 ≤ B := by
  rcases Nat.lt_or_ge j t.length with hj | hj
  · rw [List.getElem?_eq_getElem hj]; exact h _ (List.getElem_mem hj)
  · rw [List.getElem?_eq_none hj]; exact ⟨by simp; omega, hB⟩
theorem TB.set {B C : Int} {t : List Int} (h : TB B t) (hBC : B ≤ C) (j : Nat) {x : Int} (h1 : -C ≤ x) (h2 : x ≤ C) : TB C (t.set j x) := fun y hy => by
  rcases List.mem_or_eq_of_mem_set hy with h3 | rfl
  · have := h y h3; exact ⟨by omega, by omega⟩
  · exact ⟨h1, h2⟩
theorem TB.mono {B C : Int} {t : List Int} (h : TB B t) (hBC : B ≤ C) : TB C t := fun y hy => by have := h y hy; exact ⟨by omega, by omega⟩
theorem TB.zeros (n : Nat) : TB 0 (List.replicate n 0) := fun x hx => by rw [(List.mem_replicate.1 hx).2]; exact ⟨by omega, by omega⟩
/-- One digit is entered. -/
theorem enter_val {t : List Int} {i : Nat} (hi : i < t.length) (y : Int) : val 10 (t.set i (t[i]?.getD 0 + y)) = val 10 t + 10 ^ i * y := by
  rw [val_set 10 t i _ hi, List.getD_eq_getElem?_getD]
  congr 2
  omega
theorem enter_step {t : List Int} {ds : List Int} {i k L : Nat} {V0 f d : Int} (hL : ds.length = L) (hi : i < L) (hd : ds[i]?.getD 0 = d) (hk : k + (L - 1 - i) < t.length)
    (hv : val 10 t = V0 + f * vd (ds.take i) * 10 ^ (k + (L - i))) :
    val 10 (t.set (k + (L - 1 - i)) (t[k + (L - 1 - i)]?.getD 0 + f * d)) = V0 + f * vd (ds.take (i + 1)) * 10 ^ (k + (L - (i + 1))) := by
  rw [enter_val hk, hv]
  have e : ds.take (i + 1) = ds.take i ++ [d] := by
    rw [List.take_add_one, ← hd, List.getElem?_eq_getElem (by omega)]; rfl
  rw [e, vd_snoc, show k + (L - i) = (k + (L - 1 - i)) + 1 by omega, show k + (L - (i + 1)) = k + (L - 1 - i) by omega, Int.pow_succ]
  grind

/-- The columns are brought to digits. -/
theorem carry_step {t u : List Int} {i : Nat} {V o n : Int} (hi : i < t.length) (hl : u.length = i) (hu : InR 10 u) (hv : val 10 u + 10 ^ i * (o + val 10 (t.drop i)) = V) (hn : n = t[i]?.getD 0 + o) :
    InR 10 (u ++ [n - 10 * (n.fdiv 10)]) ∧ val 10 (u ++ [n - 10 * (n.fdiv 10)]) + 10 ^ (i + 1) * (n.fdiv 10 + val 10 (t.drop (i + 1))) = V := by
  have h1 : n - 10 * (n.fdiv 10) = n.fmod 10 := by have := Int.mul_fdiv_add_fmod n 10; omega
  have h2 : 0 ≤ n.fmod 10 := Int.fmod_nonneg_of_pos _ (by decide)
  have h3 : n.fmod 10 < 10 := Int.fmod_lt_of_pos _ (by decide)
  refine ⟨hu.snoc (by omega) (by show n - 10 * n.fdiv 10 < 10; omega), ?_⟩
  rw [val_snoc, hl, ← hv, val_drop 10 t i hi, List.getD_eq_getElem?_getD, Int.pow_succ]
  have e : t[i]?.getD 0 = n - o := by omega
  rw [e]
  show _ = _
  have : ((10 : Nat) : Int) = 10 := rfl
  rw [this]
  grind
theorem carry_end {t u : List Int} {L : Nat} {V o : Int} (hl : u.length = L) (ht : t.length = L) (hu : InR 10 u) (hv : val 10 u + 10 ^ L * (o + val 10 (t.drop L)) = V) : val 10 u + 10 ^ L * o = V := by
  rw [List.drop_eq_nil_of_le (by omega), val_nil] at hv
  rw [← hv]; simp
theorem carry_over {u : List Int} {L : Nat} {V o : Int} (hl : u.length = L) (hu : InR 10 u) (hv : val 10 u + 10 ^ L * o = V) : (0 ≤ V → V < 10 ^ L → o = 0 ∧ val 10 u = V) ∧ (V < 0 → -(10 ^ L) ≤ V → o = -1 ∧ val 10 u = V + 10 ^ L) := by
  have h1 := val_nonneg hu
  have h2 : val 10 u < 10 ^ L := by have := val_lt hu; rw [hl] at this; exact this
  have hp : (0 : Int) < 10 ^ L := Int.pow_pos (by omega)
  generalize (10 : Int) ^ L = P at *
  constructor
  · intro a b
    have c1 : ¬ 1 ≤ o := fun c => by have := Int.mul_le_mul_of_nonneg_left c (Int.le_of_lt hp); omega
    have c2 : ¬ o ≤ -1 := fun c => by have := Int.mul_le_mul_of_nonneg_left c (Int.le_of_lt hp); omega
    obtain rfl : o = 0 := by omega
    exact ⟨rfl, by omega⟩
  · intro a b
    have c1 : ¬ 0 ≤ o := fun c => by have := Int.mul_le_mul_of_nonneg_left c (Int.le_of_lt hp); omega
    have c2 : ¬ o ≤ -2 := fun c => by have := Int.mul_le_mul_of_nonneg_left c (Int.le_of_lt hp); omega
    obtain rfl : o = -1 := by omega
    exact ⟨rfl, by omega⟩
theorem val_neg (b : Nat) (l : List Int) : val b (l.map fun x => -x) = -val b l := by
  induction l with
  | nil => rfl
  | cons d l ih => rw [List.map_cons, val_cons, val_cons, ih]; grind
/-- The digits of the magnitude, in L columns. -/
theorem total_pos {u : List Int} {L : Nat} {V : Int} (hu : InR 10 u) (hv : val 10 u = V) : InR 10 u.reverse ∧ vd u.reverse = V := ⟨inR_reverse hu, by rw [vd_rev, hv]⟩

/-- A root's digits: R is the root of P, S what is left. -/
def RootAt (P R S : Nat) : Prop := R * R + S = P ∧ S ≤ 2 * R
theorem rootAt_zero : RootAt 0 0 0 := ⟨rfl, Nat.le_refl _⟩
theorem rootAt_step {P R S p d : Nat} (h : RootAt P R S) (hp : p < 100) (hd : d ≤ 9) (h1 : (20 * R + d) * d ≤ S * 100 + p) (h2 : d = 9 ∨ S * 100 + p < (20 * R + (d + 1)) * (d + 1)) :
    RootAt (P * 100 + p) (10 * R + d) (S * 100 + p - (20 * R + d) * d) := by
  obtain ⟨e, hs⟩ := h
  have e1 : (10 * R + d) * (10 * R + d) = 100 * (R * R) + (20 * R + d) * d := by grind
  refine ⟨by rw [e1]; omega, ?_⟩
  rcases h2 with rfl | h2
  · have : (20 * R + 9) * 9 = 180 * R + 81 := by omega
    omega
  · have : (20 * R + (d + 1)) * (d + 1) = (20 * R + d) * d + (20 * R + d) + (d + 1) := by grind
    omega
theorem rootAt_le {P R S : Nat} (h : RootAt P R S) : R * R ≤ P ∧ P < (R + 1) * (R + 1) := by
  obtain ⟨e, hs⟩ := h
  have : (R + 1) * (R + 1) = R * R + 2 * R + 1 := by grind
  omega
end Go.Proofs.YtekbfommnmikbaaGreatDoor
/- Package real: the digits of an int; near. -/
namespace Go.Proofs.YtekbfommnmikbaaGreatDoor
set_option linter.unusedVariables false
set_option linter.unusedSimpArgs false
open Go.RowKit Go.Shelf Go.Proofs Go.Sort

theorem ret_i {k : IntKind} {a b : Int} (h : a = b) : Ending.returned (.int k a) = .returned (.int k b) := by rw [h]
theorem size_c (n : Int) (w : World) (h0 : -9223372036854775807 ≤ n) (h1 : n ≤ 9223372036854775807) :
    Calls Tryz.prog 100 #[.int .i64 n] w fun e w' => e = .returned (.int .i64 (n.natAbs : Int)) ∧ w = w' := by
  by_cases h : n < 0
  · go_enter Tryz.func100, Tryz.ntmps100
    go_wp2
    go_ret
    exact ⟨ret_i (by omega), rfl⟩
  · go_enter Tryz.func100, Tryz.ntmps100
    go_wp2
    go_ret
    exact ⟨ret_i (by omega), rfl⟩

/-- Bytes (as numbers) turned around. -/
theorem revb_c (g cap : Nat) (l : List Int) (w : World) (hc : ∀ j, j < l.length → w.cell? ⟨g, j, none⟩ = some (.int .u8 (l[j]?.getD 0))) (hf : ∀ j, w.frozen? ⟨g, j, none⟩ = false) (hl : l.length ≤ 9223372036854775807) :
    Calls Tryz.prog 156 #[.slice (some ⟨g, 0, none⟩) l.length cap] w fun e w' => e = .returned (.tuple #[]) ∧ (∀ j, j < l.length → w'.cell? ⟨g, j, none⟩ = some (.int .u8 (l.reverse[j]?.getD 0))) ∧ (∀ k w0, k ≤ g → Below k w0 w → Below k w0 w') := by
  have h0 : Holds (Value.int .u8) w g 0 l.toArray := fun j hj => by
    have hj' : j < l.length := by simpa using hj
    rw [Nat.zero_add]
    refine ⟨?_, hf j⟩
    rw [hc j hj', getElem!_pos _ j hj, List.getElem?_eq_getElem hj']
    simp
  have h := AnyE.slices_Reverse Tryz.laysRev (Value.int .u8) (fun _ => rfl) g 0 cap l w h0 hl
  refine (show Calls Tryz.prog 156 #[.slice (some ⟨g, 0, none⟩) l.length cap] w _ from h).mono ?_
  rintro e w' ⟨rfl, n, rfl⟩
  refine ⟨rfl, fun j hj => ?_, fun k w0 hk hb => ⟨hb.os, hb.tape, hb.output, by simpa [Sort.ahead] using hb.size, fun i hi => ?_⟩⟩
  · have hj' : j < l.reverse.toArray.size := by simpa using hj
    have h1 := cell?_putRow (Value.int .u8) (Sort.ahead w n) g 0 l.toArray l.reverse.toArray h0 (by simp) j hj'
    rw [Nat.zero_add] at h1
    rw [h1, getElem!_pos _ j hj', List.getElem?_eq_getElem (by simpa using hj)]
    simp
  · rw [← hb.block i hi]
    simp only [putRow, mapBlock, Sort.ahead, Array.getElem?_modify]
    rw [if_neg (by omega)]
theorem revn_c (a : Option Addr) (cap : Nat) (w : World) : Calls Tryz.prog 156 #[.slice a 0 cap] w fun e w' => e = .returned (.tuple #[]) ∧ w' = w :=
  AnyE.slices_Reverse_empty Tryz.laysRev a cap w

theorem own_some' {w : World} {B : Nat} {t : TypeId} {v : Value} {n : Nat} {xs : List Value} (h : w.ownsRow B t 1 v n xs) (hn : 0 < n) : ∃ g cap, v = .slice (some ⟨g, 0, none⟩) n cap := by
  rcases h.2 with ⟨_, h0⟩ | ⟨g, cap, cur, rfl, _⟩
  · omega
  · exact ⟨g, cap, rfl⟩

/-- A call returns new digits ds. -/
def DsP (ds : List Int) (w : World) (e : Ending) (w' : World) : Prop := ∃ v, e = .returned v ∧ Sl .u8 w' v ds ∧ FromB w.heap.size v ∧ Below w.heap.size w w'

set_option maxRecDepth 100000 in
set_option maxHeartbeats 2000000 in
theorem digitsOf_c (n : Nat) (w : World) (hn : n < 10 ^ 18) : Calls Tryz.prog 89 #[.int .i64 (n : Int)] w (DsP (dg 10 n).reverse w) := by
  have HLEN : Hid ((dg 10 n).length ≤ 18) := (dg_length_le (by decide) n 18).2 hn
  obtain ⟨i0, hi, hz0, hz1, hz2⟩ := info_parts info_byte
  have HI := Lib.hid (And.intro hi (And.intro hz0 (And.intro hz1 hz2)))
  clear hi hz0 hz1 hz2
  have hn2 : n ≤ 9223372036854775807 := by omega
  clear hn
  go_enter Tryz.func89, Tryz.ntmps89
  go_wp2_with fail
  go_loopg [0, 3] n (fun g nv lv wr => ∃ (l : List Int), nv = .int .i64 (g : Int) ∧ g ≤ n ∧ Hid (wr.ownsRow w.heap.size 5 1 lv l.length (l.map (Value.int .u8))) ∧ Hid (l ++ dg 10 g = dg 10 n) ∧ Hid (Below w.heap.size w wr))
  case atStart => exact ⟨[], rfl, Nat.le_refl _, World.ownsRow_nil _ _ _ _, rfl, Below.refl _ _⟩
  case round =>
    obtain ⟨l, rfl, hgn, HOW, HL, HB⟩ := hrel
    have hll : l.length ≤ 18 := by have h1 := congrArg List.length HL.out; rw [List.length_append] at h1; have := HLEN.out; omega
    have hsz := HB.out.size
    by_cases hg0 : gk = 0
    · subst hg0
      have hl := HL.out
      rw [dg_zero, List.append_nil] at hl
      subst hl
      have HFR := Lib.hid (own_from HOW.out)
      by_cases hp : (dg 10 n).length = 0
      · obtain ⟨A, c, rfl⟩ : ∃ A c, u3 = .slice A 0 c := by
          rcases HOW.out.2 with ⟨h, _⟩ | ⟨g, cap, cur, h, _⟩
          · exact ⟨none, 0, h⟩
          · exact ⟨_, cap, by rw [h, hp]⟩
        have hcap : c ≤ 9223372036854775807 := by
          obtain ⟨A', c', e, h1, h2, -, -⟩ := own_row HOW.out
          have e2 := (Value.slice.inj e).2.2
          unfold maxLen at h2; omega
        have HNIL : Hid (dg 10 n = []) := List.eq_nil_of_length_eq_zero hp
        clear hp HL HLEN HOW
        go_wp2_with (go_at_call 156; refine (revn_c _ _ _).mono ?_; rintro e w' ⟨rfl, rfl⟩)
        go_ret
        rw [HNIL.out]
        exact ⟨_, rfl, ⟨A, c, rfl, Nat.zero_le _, hcap, Row.nil⟩, HFR.out, HB.out⟩
      · obtain ⟨g, cap, rfl⟩ := own_some' HOW.out (by omega)
        have hcs : Hid (∀ j, j < (dg 10 n).length → wr.cell? ⟨g, j, none⟩ = some (.int .u8 ((dg 10 n)[j]?.getD 0))) := fun j hj => by
          obtain ⟨A', c', e, -, -, hr, -⟩ := own_row HOW.out
          cases e
          obtain ⟨a, e, hc⟩ := hr j hj
          cases e
          rw [add_lit, Nat.zero_add] at hc
          exact hc
        have hcap : (dg 10 n).length ≤ cap ∧ cap ≤ 9223372036854775807 := by
          obtain ⟨A', c', e, h1, h2, -, -⟩ := own_row HOW.out
          cases e; unfold maxLen at h2; exact ⟨h1, by omega⟩
        have hgb := (HOW.out.lt g rfl).1
        have hfz := Lib.hid (fun j => HOW.out.frozenAt j)
        have hcap1 := hcap.1; have hcap2 := hcap.2
        clear hp HL hcap
        go_wp2_with (go_at_call 156; refine (revb_c g cap (dg 10 n) _ hcs.out hfz.out (by omega)).mono ?_; rintro e w2 ⟨rfl, hc2, hb2⟩; have HC2 := Lib.hid hc2; have HB2 := Lib.hid (hb2 _ _ hgb HB.out); clear hc2 hb2)
        go_ret
        refine ⟨_, rfl, ⟨some ⟨g, 0, none⟩, cap, by rw [List.length_reverse]; rfl, by rw [List.length_reverse]; exact hcap1, hcap2, fun j hj => ⟨_, rfl, ?_⟩⟩, HFR.out, HB2.out⟩
        rw [add_lit, Nat.zero_add]
        exact HC2.out j (by simpa using hj)
    · obtain ⟨d, hd⟩ : ∃ d, gk % 10 = d := ⟨_, rfl⟩
      have hd9 : d < 10 := by omega
      have HDG : Hid (dg 10 gk = (d : Int) :: dg 10 (gk / 10)) := by show _ = _; rw [dg_pos (by decide) (by omega), ← hd]
      have T : (gk : Int) % 10 = (d : Int) := by omega
      have hwr : IntKind.u8.wrap (d : Int) = (d : Int) := by rw [show IntKind.u8.wrap (d : Int) = (d : Int) % 256 from rfl]; omega
      have hgp : (0 : Int) < (gk : Int) := by omega
      have hgm : (gk : Int) ≤ 9223372036854775807 := by omega
      clear hd
      go_wp2_with (at_builtin; refine wpList_append_own _ rfl _ _ 93 rfl w.heap.size 5 i0 (.int .u8 0) 1 1 Tryz.underlying93 HI.out.1 HI.out.2.1 HI.out.2.2.1 HI.out.2.2.2 rfl (by decide) _ _ _ rfl (HOW.out.alloc _) ⟨wr.heap.size, 0, none⟩ 1 1 [.int .u8 (d : Int)] rfl rfl (cell_one_new _ _ _) (by simp [Value.oneCell']) (by unfold maxLen; omega) (by omega) (by simp; omega) ?_; intro v' w1 hown1 hgrow1 _; have HO1 := Lib.hid hown1; have HG1 := Lib.hid hgrow1; clear hown1 hgrow1)
      go_roundg (gk / 10)
      case measure => omega
      case rel =>
        refine ⟨l ++ [(d : Int)], by go_num, by omega, ?_, ?_, ?_⟩
        · have h1 := HO1.out
          rw [List.map_append, List.length_append]; exact h1
        · show _ = _
          rw [List.append_assoc, List.singleton_append, ← HL.out, HDG.out]
        · exact (HB.out.alloc hsz _).grown HG1.out (by simp; omega) ((own_from HOW.out).mono (by omega))

/-- What the callers of near give: whether some digit is not 0. -/
theorem nearf_c (x : Int) (w : World) : Calls Tryz.prog 158 #[.int .u8 x] w fun e w' => e = .returned (.bool (decide (0 < x))) ∧ w = w' := by
  go_enter Tryz.func158, Tryz.ntmps158
  go_wp2
  go_ret
  exact ⟨rfl, rfl⟩
theorem drop_take {l : List Int} {k : Nat} (h : k < l.length) : l.take (k + 1) = l.take k ++ [l[k]?.getD 0] := by
  rw [List.take_add_one, List.getElem?_eq_getElem h]; rfl

set_option maxRecDepth 100000 in
set_option maxHeartbeats 1000000 in
theorem indexf_c (A : Option Addr) (c : Nat) (l : List Int) (w : World) (hr : Row .u8 w A l) (hl : l.length ≤ 9223372036854775807) :
    Calls Tryz.prog 203 #[.slice A l.length c, .func (.func 158) #[] #[]] w fun e w' => (∃ i : Int, e = .returned (.int .i64 i) ∧ (0 ≤ i ↔ ∃ x ∈ l, 0 < x)) ∧ w = w' := by
  have HR := Lib.hid hr
  clear hr
  go_enter Tryz.func203, Tryz.ntmps203
  go_wp2_with fail
  go_loopg [8] l.length (fun g iv wr => ∃ k : Nat, iv = .int .i64 (k : Int) ∧ k + g = l.length ∧ Hid (∀ x ∈ l.take k, ¬ 0 < x) ∧ wr = w)
  case atStart => exact ⟨0, rfl, by omega, fun x hx => by simp at hx, rfl⟩
  case round =>
    obtain ⟨k, rfl, hk, HZ, rfl⟩ := hrel
    by_cases hlt : k < l.length
    · obtain ⟨a, rfl, hcell⟩ := HR.out k hlt
      have HT := Lib.hid (drop_take hlt)
      have HM : Hid (l[k]?.getD 0 ∈ l) := by show _ ∈ _; rw [List.getElem?_eq_getElem hlt]; exact List.getElem_mem hlt
      obtain ⟨x, hx⟩ : ∃ x, l[k]?.getD 0 = x := ⟨_, rfl⟩
      rw [hx] at hcell HT HM
      have HK := Lib.hid hk
      clear hx hk
      by_cases hx0 : 0 < x
      · have hb : decide (0 < x) = true := decide_eq_true hx0
        go_wp2_with (go_at_call 158; refine (nearf_c x _).mono ?_; rintro e w' ⟨he, rfl⟩; rw [hb] at he; subst he)
        go_ret
        exact ⟨⟨_, rfl, fun _ => ⟨x, HM.out, hx0⟩, fun _ => by omega⟩, rfl⟩
      · have hb : decide (0 < x) = false := decide_eq_false hx0
        go_wp2_with (go_at_call 158; refine (nearf_c x _).mono ?_; rintro e w' ⟨he, rfl⟩; rw [hb] at he; subst he)
        go_roundg (gk - 1)
        case measure => have := HK.out; omega
        case rel =>
          refine ⟨k + 1, by go_num, by have := HK.out; omega, fun y hy => ?_, rfl⟩
          rw [HT.out] at hy
          rcases List.mem_append.1 hy with hy | hy
          · exact HZ.out y hy
          · rw [List.mem_singleton.1 hy]; exact hx0
    · have HN : Hid (¬ ∃ x ∈ l, 0 < x) := by
        rintro ⟨x, hx, h0⟩
        exact HZ.out x (by rw [List.take_of_length_le (by omega)]; exact hx) h0
      go_wp2_with fail
      go_ret
      exact ⟨⟨_, rfl, fun h => by omega, fun h => absurd h HN.out⟩, rfl⟩

theorem containsf_c (A : Option Addr) (c : Nat) (l : List Int) (b : Bool) (w : World) (hr : Row .u8 w A l) (hl : l.length ≤ 9223372036854775807) (hb : b = true ↔ ∃ x ∈ l, 0 < x) :
    Calls Tryz.prog 157 #[.slice A l.length c, .func (.func 158) #[] #[]] w fun e w' => e = .returned (.bool b) ∧ w = w' := by
  have HR := Lib.hid hr; have HL := Lib.hid hl; have HBB := Lib.hid hb
  clear hr hl hb
  go_enter Tryz.func157, Tryz.ntmps157
  go_wp2_with (go_at_call 203; refine (indexf_c A c l _ HR.out HL.out).mono ?_; rintro e w' ⟨⟨i, rfl, hi⟩, rfl⟩; have HI := Lib.hid hi; clear hi)
  go_ret
  refine ⟨?_, rfl⟩
  rw [show b = decide (0 ≤ i) from by rw [Bool.eq_iff_iff, HBB.out, decide_eq_true_iff]; exact HI.out.symm]
  rfl

end Go.Proofs.YtekbfommnmikbaaGreatDoor
/- Package real: near, put, copies of digits. -/
namespace Go.Proofs.YtekbfommnmikbaaGreatDoor
set_option linter.unusedVariables false
set_option linter.unusedSimpArgs false
open Go.RowKit Go.Shelf Go.Proofs Go.Sort

theorem add_zero (a : Addr) : a.add 0 = a := rfl
theorem add_one (a : Addr) (j : Nat) : (⟨a.block, a.off + 1, none⟩ : Addr).add j = a.add (j + 1) := by
  unfold Addr.add
  rw [if_neg (show ¬ j + 1 = 0 by omega)]
  split
  · rename_i h; subst h; rfl
  · simp; omega
theorem row_tail {k : IntKind} {w : World} {a : Addr} {d : Int} {t : List Int} (h : Row k w (some a) (d :: t)) : Row k w (some ⟨a.block, a.off + 1, none⟩) t := fun j hj => by
  obtain ⟨a', e, hc⟩ := h (j + 1) (by simpa using hj)
  cases e
  exact ⟨_, rfl, by rw [add_one]; simpa using hc⟩

set_option maxRecDepth 100000 in
set_option maxHeartbeats 1000000 in
theorem near_c (A : Option Addr) (c : Nat) (l : List Int) (q : Nat) (w : World) (hr : Row .u8 w A l) (hc : l.length ≤ c) (hm : c ≤ 9223372036854775807) (hi : InR 10 l) (hq : q < 10 ^ 13) :
    Calls Tryz.prog 90 #[.slice A l.length c, .int .i64 (q : Int)] w fun e w' => e = .returned (.int .i64 (nearV l q : Int)) ∧ w = w' := by
  cases l with
  | nil =>
    rw [near_nil]
    clear hr hi
    go_enter Tryz.func90, Tryz.ntmps90
    go_wp2_with fail
    go_ret
    exact ⟨rfl, rfl⟩
  | cons d t =>
    obtain ⟨a, rfl, hcell⟩ := hr 0 (by simp)
    have hcell : w.cell? a = some (.int .u8 d) := by have h0 : w.cell? (a.add 0) = some (.int .u8 d) := hcell; rwa [add_zero] at h0
    have hne : ((t.length : Int) + 1 == 0) = false := by rw [beq_eq_false_iff_ne]; omega
    rw [List.length_cons] at *
    by_cases hd : d < 5
    · rw [near_less hi hd]
      clear hr hi
      go_enter Tryz.func90, Tryz.ntmps90
      go_wp2_with fail
      go_ret
      exact ⟨rfl, rfl⟩
    · have HDV := Lib.hid (near_more hi)
      have HHF := Lib.hid (fun hv : vd t = 0 => near_half hv q)
      obtain ⟨b, hb⟩ : ∃ b, decide (0 < vd t) = b := ⟨_, rfl⟩
      have HCB : Hid (b = true ↔ ∃ x ∈ t, 0 < x) := by show _ ↔ _; rw [← hb, decide_eq_true_iff]; exact vd_some hi.tail
      have HVN := Lib.hid (vd_nonneg hi.tail)
      have HB := Lib.hid hb
      have HD := Lib.hid hd
      have hd5 : ¬ (d < 5) := hd
      have HRT := Lib.hid (row_tail hr)
      have hm0 : (0 : Int) ≤ (q : Int) := by omega
      have hm1 : (q : Int) ≤ 9223372036854775807 := by omega
      have hq2 := Nat.mod_two_eq_zero_or_one q
      obtain ⟨r, hr2⟩ : ∃ r, q % 2 = r := ⟨_, rfl⟩
      rw [hr2] at hq2
      have T : (q : Int) % 2 = (r : Int) := by omega
      have HR2 := Lib.hid hr2
      obtain ⟨L, hL⟩ : ∃ L, t.length = L := ⟨_, rfl⟩
      rw [hL] at hc hne ⊢
      have HL := Lib.hid hL
      have HC2 : Hid (∀ c', Calls Tryz.prog 157 #[.slice (some ⟨a.block, a.off + 1, none⟩) L c', .func (.func 158) #[] #[]] w fun e w' => e = .returned (.bool b) ∧ w = w') := fun c' => by
        rw [← HL.out]; exact containsf_c _ c' t b w HRT.out (by rw [HL.out]; omega) HCB.out
      have HC3 : Hid (c = 1 → Calls Tryz.prog 157 #[.slice (some a) L 0, .func (.func 158) #[] #[]] w fun e w' => e = .returned (.bool b) ∧ w = w') := fun h1 => by
        obtain rfl : t = [] := List.eq_nil_of_length_eq_zero (by rw [HL.out]; omega)
        rw [← HL.out]
        exact containsf_c _ 0 [] b w Row.nil (by simp) HCB.out
      have HEND : Hid (nearV (d :: t) q = if d = 5 ∧ b = false then (if r = 1 then 1 else 0) else 1) := by
        show _ = _
        by_cases h5 : d = 5 ∧ b = false
        · rw [if_pos h5]
          have hv : vd t = 0 := by have := h5.2; rw [← hb, decide_eq_false_iff_not] at this; have := HVN.out; omega
          rw [h5.1, near_half hv, hr2]
        · rw [if_neg h5]
          refine near_more hi ?_ q
          cases b with
          | false => exact .inl (by have h6 : ¬ d = 5 := fun e => h5 ⟨e, rfl⟩; omega)
          | true => exact .inr ⟨by omega, by simpa using hb⟩
      rw [HEND.out]
      clear hr hi hb hr2 hL hd HEND
      by_cases h5 : d = 5
      · subst h5
        have h56 : decide ((5 : Int) < 5) = false := by decide
        cases b
        · rcases hq2 with rfl | rfl
          · go_enter Tryz.func90, Tryz.ntmps90
            go_wp2_with (first
              | (go_at_call 157; (with_reducible refine (HC2.out _).mono ?_); rintro e w' ⟨rfl, rfl⟩)
              | (go_at_call 157; (with_reducible refine (HC3.out ?_).mono ?_); assumption; rintro e w' ⟨rfl, rfl⟩))
            all_goals
              go_ret
              exact ⟨rfl, rfl⟩
          · go_enter Tryz.func90, Tryz.ntmps90
            go_wp2_with (first
              | (go_at_call 157; (with_reducible refine (HC2.out _).mono ?_); rintro e w' ⟨rfl, rfl⟩)
              | (go_at_call 157; (with_reducible refine (HC3.out ?_).mono ?_); assumption; rintro e w' ⟨rfl, rfl⟩))
            all_goals
              go_ret
              exact ⟨rfl, rfl⟩
        · go_enter Tryz.func90, Tryz.ntmps90
          go_wp2_with (first
            | (go_at_call 157; (with_reducible refine (HC2.out _).mono ?_); rintro e w' ⟨rfl, rfl⟩)
            | (go_at_call 157; (with_reducible refine (HC3.out ?_).mono ?_); assumption; rintro e w' ⟨rfl, rfl⟩))
          all_goals
            go_ret
            exact ⟨rfl, rfl⟩
      · have h6 : 5 < d := by have := HD.out; omega
        rw [if_neg (fun h => h5 h.1)]
        go_enter Tryz.func90, Tryz.ntmps90
        go_wp2_with (first
          | (go_at_call 157; (with_reducible refine (HC2.out _).mono ?_); rintro e w' ⟨rfl, rfl⟩)
          | (go_at_call 157; (with_reducible refine (HC3.out ?_).mono ?_); assumption; rintro e w' ⟨rfl, rfl⟩))
        all_goals
          go_ret
          exact ⟨rfl, rfl⟩

/-- A Man with its sign. -/
def sgm (s : Bool) (m : Int) : Int := if s then -m else m

set_option maxRecDepth 100000 in
set_option maxHeartbeats 1000000 in
theorem put_c (s : Bool) (m x : Int) (w : World) (h0 : 0 ≤ m) (h1 : m ≤ 9223372036854775807) :
    Calls Tryz.prog 202 #[.agg #[.bool s], .int .i64 m, .int .i64 x] w fun e w' => e = .returned (.agg #[.int .i64 (sgm s m), .int .i64 x]) ∧ Below w.heap.size w w' := by
  cases s
  · go_enter Tryz.func202, Tryz.ntmps202
    go_wp2_with fail
    refine bodyPost_ret (v := .agg #[.int .i64 m, .int .i64 x]) (by simp [results, Tryz.results202, go_sem]) rfl ?_
    exact ⟨rfl, (by repeat (first | exact Below.refl _ _ | exact HB.out | (refine Below.alloc ?_ (by first | (simp; done) | (simp; omega)) _) | (refine Below.setCell ?_ (by first | (simp; done) | (simp; omega)) _) | refine Below.drew ?_ | refine below_drewN ?_ _))⟩
  · go_enter Tryz.func202, Tryz.ntmps202
    go_wp2_with fail
    refine bodyPost_ret (v := .agg #[.int .i64 (-m), .int .i64 x]) (by simp [results, Tryz.results202, go_sem]) rfl ?_
    exact ⟨rfl, (by repeat (first | exact Below.refl _ _ | exact HB.out | (refine Below.alloc ?_ (by first | (simp; done) | (simp; omega)) _) | (refine Below.setCell ?_ (by first | (simp; done) | (simp; omega)) _) | refine Below.drew ?_ | refine below_drewN ?_ _))⟩

/-- Digits copied. -/
theorem bclone_c (A : Option Addr) (c : Nat) (xs : List Int) (w : World) (hr : Row .u8 w A xs) (hb : xs.length ≤ 1000000000) :
    Calls Tryz.prog 201 #[.slice A xs.length c] w fun e w' => ∃ v, e = .returned v ∧ w'.ownsRow w.heap.size 5 1 v xs.length (xs.map (Value.int .u8)) ∧ Below w.heap.size w w' := by
  obtain ⟨i0, hi, hz0, hz1, hz2⟩ := info_parts info_byte
  have q22 : ∀ (w : World) (a : Option Addr) (n c n' c' : Nat), (binOp .eql 93 (.slice a n c) (.slice none n' c')).run Tryz.prog w = .ok (.bool a.isNone) w := fun w a n c n' c' => Lib.run_eql_slice_nil w _ _ a n c n' c' Tryz.underlying93
  have HR := Lib.hid hr
  clear hr
  have HI := Lib.hid (And.intro hi (And.intro hz0 (And.intro hz1 hz2)))
  clear hi hz0 hz1 hz2
  cases A with
  | none =>
    have hx : xs = [] := by
      cases xs with
      | nil => rfl
      | cons x xs => obtain ⟨a, e, _⟩ := HR.out 0 (by simp); cases e
    subst hx
    go_enter Tryz.func201, Tryz.ntmps201
    go_wp2
    go_ret
    exact ⟨_, rfl, World.ownsRow_nil _ _ _ _, Below.refl _ _⟩
  | some a =>
    go_enter Tryz.func201, Tryz.ntmps201
    go_wp2_with (at_builtin; refine wpList_append_own _ rfl _ _ 93 rfl w.heap.size 5 i0 (.int .u8 0) 1 1 Tryz.underlying93 HI.out.1 HI.out.2.1 HI.out.2.2.1 HI.out.2.2.2 rfl (by decide) _ _ _ rfl (World.ownsRow_made w #[] 0 (Nat.le_refl _) (Nat.zero_le _) rfl) a xs.length c (xs.map (Value.int .u8)) rfl (by simp) ?qc2 ?qc3 ?qc4 ?qc5 ?qc6 ?_)
    case qc2 =>
      intro j u hj
      have hjn : j < xs.length := by
        have := (List.getElem?_eq_some_iff.1 hj).1
        simpa using this
      obtain ⟨a', e, hc⟩ := (HR.out.alloc (.cells #[] 5)) j hjn
      cases e
      rw [hc]
      rw [List.getElem?_map, List.getElem?_eq_getElem hjn] at hj
      rw [List.getElem?_eq_getElem hjn]
      exact hj
    case qc3 => intro u hu; obtain ⟨x, _, rfl⟩ := List.mem_map.1 hu; rfl
    case qc4 => unfold maxLen; omega
    case qc5 => omega
    case qc6 => simp
    intro v' w1 hown hgrow hnil
    go_wp2
    go_ret
    refine ⟨v', rfl, by simpa using hown, ?_⟩
    exact ((Below.refl _ _).alloc (Nat.le_refl _) _).grown hgrow (by simp) (fun k hk => by cases hk; exact Nat.le_refl _)
end Go.Proofs.YtekbfommnmikbaaGreatDoor
