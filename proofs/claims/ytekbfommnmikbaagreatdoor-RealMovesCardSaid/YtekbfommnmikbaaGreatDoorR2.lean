/- Texts of magnitudes; integers: sums. -/
import Derived.Lib.AppendIntMem
import Derived.WalkSmall
import Derived.Test.YtekbfommnmikbaaGreatDoorM1
import Derived.Test.YtekbfommnmikbaaGreatDoorShelf
namespace Go.Proofs.YtekbfommnmikbaaGreatDoor
set_option linter.unusedVariables false
set_option linter.unusedSimpArgs false
open Go.RowKit Go.Shelf Go.Proofs

set_option maxHeartbeats 1000000 in
set_option maxRecDepth 100000 in
theorem copyUsed_c (b : Nat) (w : World) (h0 : w.cell? ⟨b, 0, none⟩ = some (.pointer (some ⟨b, 0, none⟩))) :
    Calls Tryz.prog 212 #[.pointer (some ⟨b, 0, none⟩)] w fun e w' => e = .returned (.tuple #[]) ∧ w' = w := by
  obtain ⟨j, hj, _⟩ := Option.map_eq_some_iff.1 (show (Tryz.prog.info? 166).map (·.size) = some 2 by kernel_rfl)
  have HJ := Lib.hid hj
  clear hj
  go_enter Tryz.func212, Tryz.ntmps212
  go_wp2
  rw [Lib.run_neq_ptr_same w _ Tryz.underlying164 HJ.out]
  go_wp2
  go_end0
  exact ⟨rfl, rfl⟩

set_option maxHeartbeats 1000000 in
set_option maxRecDepth 100000 in
theorem copyFresh_c (b : Nat) (w : World) (h0 : w.cell? ⟨b, 0, none⟩ = some (.pointer none)) (hsh : w.shape? b = some (166, 2)) (hfz : w.frozen? ⟨b, 0, none⟩ = false) :
    Calls Tryz.prog 212 #[.pointer (some ⟨b, 0, none⟩)] w fun e w' => e = .returned (.tuple #[]) ∧ w' = w.setCell ⟨b, 0, none⟩ (.pointer (some ⟨b, 0, none⟩)) := by
  obtain ⟨j, hj, hjs⟩ := Option.map_eq_some_iff.1 (show (Tryz.prog.info? 166).map (·.size) = some 2 by kernel_rfl)
  have HJ := Lib.hid hj
  have HJS := Lib.hid hjs
  have HSH := Lib.hid hsh
  clear hj hjs hsh
  go_enter Tryz.func212, Tryz.ntmps212
  go_wp2
  rw [Lib.run_to_unsafe w ⟨b, 0, none⟩ Tryz.underlying164 Tryz.underlying234 HJ.out (by rw [HJS.out]; decide) HSH.out (Nat.zero_lt_succ 1)]
  simp only [Result.andThen]
  rw [Oper.upon_value]
  go_wp2
  rw [run_callFunc_extern Tryz.func234 (by kernel_rfl) (by kernel_rfl) (by kernel_rfl) (e := Extern.AbiNoEscape.same) (by kernel_rfl)]
  rw [Lib.run_noEscape]
  simp only [Result.andThen]
  rw [Oper.upon_value]
  go_wp2
  rw [Lib.run_from_unsafe w ⟨b, 0, none⟩ Tryz.underlying234 Tryz.underlying164 HJ.out HSH.out (by kernel_rfl)]
  simp only [Result.andThen]
  rw [Oper.upon_value]
  go_wp2
  go_end0
  exact ⟨rfl, rfl⟩

theorem copyCheck_c (B b : Nat) (bs : List Value) (w : World) (h : Lib.IsBuilder 166 5 B b bs w) :
    Calls Tryz.prog 212 #[.pointer (some ⟨b, 0, none⟩)] w fun e w' => e = .returned (.tuple #[]) ∧ (Lib.BuilderAt 166 5 B b (.pointer (some ⟨b, 0, none⟩)) bs w' ∧ Below B w w' ∧ Lib.OthersKept 5 (some b) w w') := by
  rcases h with h | h
  · refine (copyFresh_c b w h.cell0 h.shape h.frozen0).mono ?_
    rintro e w' ⟨rfl, rfl⟩
    exact ⟨rfl, h.used _, (Below.refl B w).setCell (p := ⟨b, 0, none⟩) h.1 _, (Lib.OthersKept.refl _ _ _).setCell ⟨b, 0, none⟩ rfl _⟩
  · refine (copyUsed_c b w h.cell0).mono ?_
    rintro e w' ⟨rfl, rfl⟩
    exact ⟨rfl, h, Below.refl B _, Lib.OthersKept.refl _ _ _⟩

theorem info_byte : (Tryz.prog.info? 5).map (fun i => (i.zero, i.size, i.bytes)) = some (some (.int .u8 0), 1, 1) := by kernel_rfl

set_option maxHeartbeats 2000000 in
set_option maxRecDepth 100000 in
theorem writeString_c (B b : Nat) (bs : List Value) (s : ByteArray) (w : World) (h : Lib.IsBuilder 166 5 B b bs w) (hlen : bs.length + s.size ≤ 140737488355328) (hBw : B ≤ w.heap.size) :
    Calls Tryz.prog 170 #[.pointer (some ⟨b, 0, none⟩), .string s] w fun e w' => e = .returned (.tuple #[.int .i64 s.size, .nilIface]) ∧ (Lib.BuilderAt 166 5 B b (.pointer (some ⟨b, 0, none⟩)) (bs ++ Lib.strCells s) w' ∧ Below B w w' ∧ Lib.OthersKept 5 (some b) w w') := by
  obtain ⟨i0, hi, hz0, hz1, hz2⟩ := info_parts info_byte
  have HI := Lib.hid (And.intro hi (And.intro hz0 (And.intro hz1 hz2)))
  have HH := Lib.hid h
  clear hi hz0 hz1 hz2 h
  go_enter Tryz.func170, Tryz.ntmps170
  go_wp2_with (go_at_call 212; refine (copyCheck_c B b bs _ HH.out).mono ?_)
  rintro e w1 ⟨rfl, h1, hb1, hok1⟩
  obtain ⟨hB, v, hbk, hown, hne⟩ := h1
  have c0 : w1.cell? ⟨b, 0, none⟩ = some (.pointer (some ⟨b, 0, none⟩)) := by rw [Lib.cell_of_heap hbk]; rfl
  have c1 : w1.cell? ⟨b, 1, none⟩ = some v := by rw [Lib.cell_of_heap hbk]; rfl
  have HOWN := Lib.hid hown
  clear hown
  go_wp2_with (at_builtin; refine Lib.wpList_append_own_string _ rfl _ _ 93 9 rfl B 5 i0 Tryz.underlying93 Tryz.underlying9 HI.out.1 HI.out.2.1 HI.out.2.2.1 HI.out.2.2.2 _ _ _ rfl HOWN.out s rfl ?c3 ?c4 ?c5 ?_)
  case c3 => unfold maxLen; omega
  case c4 => omega
  case c5 => have := hb1.size; omega
  intro v' w2 hown' hgrow _
  have hown := HOWN.out
  have hlt : b < w1.heap.size := by
    rcases Nat.lt_or_ge b w1.heap.size with h' | h'
    · exact h'
    · simp [Array.getElem?_eq_none h'] at hbk
  have hb2 : w2.heap[b]? = some (.cells #[.pointer (some ⟨b, 0, none⟩), v] 166 (0, 0)) := by
    rw [hgrow.block b hlt (fun e => hne e.symm)]
    exact hbk
  have d0 : w2.cell? ⟨b, 0, none⟩ = some (.pointer (some ⟨b, 0, none⟩)) := by rw [Lib.cell_of_heap hb2]; rfl
  have d1 : w2.cell? ⟨b, 1, none⟩ = some v := by rw [Lib.cell_of_heap hb2]; rfl
  have f1 : w2.frozen? ⟨b, 1, none⟩ = false := Lib.frozen_of_heap hb2 1
  obtain ⟨ao, n', cap, rfl⟩ : ∃ ao n' cap, v' = .slice ao n' cap := by
    rcases hown'.2 with ⟨hv, _⟩ | ⟨g, cap, cur, hv, _⟩
    · exact ⟨_, _, _, hv⟩
    · exact ⟨_, _, _, hv⟩
  have HB2 := Lib.hid hb2
  have HOWN' := Lib.hid hown'
  have HGR := Lib.hid hgrow
  have HBK := Lib.hid hbk
  clear hb2 hown' hgrow hbk hown
  go_wp2
  go_ret2
  refine ⟨rfl, ?_, ?_, ?_⟩
  · exact Lib.BuilderAt.put (T := 166) (e := 5) hB HB2.out (bs' := bs ++ Lib.strCells s) (by simpa [Lib.strCells_length] using HOWN'.out) (by decide)
  · exact (hb1.grown HGR.out (by have := hb1.size; omega) (fun k hk => (HOWN.out.lt k hk).1)).setCell (p := ⟨b, 1, none⟩) hB _
  · exact (hok1.grown HGR.out (fun g hg => by
      rcases HOWN.out.2 with ⟨rfl, _⟩ | ⟨g', cap', cur, rfl, _, hh, _⟩
      · cases hg
      · cases hg; exact ⟨_, _, hh⟩)).setCell ⟨b, 1, none⟩ rfl _

end Go.Proofs.YtekbfommnmikbaaGreatDoor

namespace Go.Proofs.YtekbfommnmikbaaGreatDoor
set_option linter.unusedVariables false
set_option linter.unusedSimpArgs false
open Go.RowKit Go.Shelf Go.Proofs
attribute [local go_sem] Oper.semAt_some

/-- k decimal digits, zeros ahead. -/
def pad : Nat → Nat → List UInt8
  | 0, _ => []
  | k + 1, d => pad k (d / 10) ++ [UInt8.ofNat (48 + d % 10)]

theorem pad_zero : ∀ k, pad k 0 = Lib.repeatL [48] k
  | 0 => rfl
  | k + 1 => by
    rw [pad, Nat.zero_div, pad_zero k, Lib.repeatL_add [48] k 1]
    rfl

theorem pad_eq : ∀ (k d : Nat), 0 < k → d < 10 ^ k → pad k d = Lib.repeatL [48] (k - (Lib.decDigits d).length) ++ Lib.decDigits d
  | 0, d, h, _ => absurd h (by omega)
  | k + 1, d, _, hd => by
    by_cases h : d < 10
    · rw [pad, Nat.div_eq_of_lt h, pad_zero, Lib.decDigits_one h, Nat.mod_eq_of_lt h]
      simp
    · have h1 : d / 10 < 10 ^ k := by rw [Nat.pow_succ] at hd; omega
      have hk : 0 < k := by
        rcases Nat.eq_zero_or_pos k with rfl | h'
        · simp at hd; omega
        · exact h'
      rw [pad, pad_eq k (d / 10) hk h1]
      conv => rhs; rw [Lib.decDigits, dif_neg h]
      rw [List.length_append, List.append_assoc]
      simp

theorem decDigits_shift : ∀ (k d v : Nat), 0 < v → d < 10 ^ k → Lib.decDigits (d + 10 ^ k * v) = Lib.decDigits v ++ pad k d
  | 0, d, v, _, hd => by
    obtain rfl : d = 0 := by simpa using hd
    simp [pad]
  | k + 1, d, v, hv, hd => by
    have hp : 1 ≤ 10 ^ k := Nat.one_le_pow _ _ (by decide)
    have h1 : 10 ^ k * 1 ≤ 10 ^ k * v := Nat.mul_le_mul_left _ hv
    have h2 : ¬ d + 10 ^ (k + 1) * v < 10 := by rw [Nat.pow_succ, Nat.mul_right_comm]; omega
    have e1 : (d + 10 ^ (k + 1) * v) / 10 = d / 10 + 10 ^ k * v := by rw [Nat.pow_succ, Nat.mul_right_comm]; omega
    have e2 : (d + 10 ^ (k + 1) * v) % 10 = d % 10 := by rw [Nat.pow_succ, Nat.mul_right_comm]; omega
    rw [Lib.decDigits, dif_neg h2, e1, e2, decDigits_shift k (d / 10) v hv (by rw [Nat.pow_succ] at hd; omega), pad, List.append_assoc]

/-- The text, when some parts have been written. -/
def sst (p : List Int) : List (Ix p.length) → List UInt8 :=
  List.foldl (fun acc x => acc ++ ((if x.1 + 1 < p.length then Lib.repeatL [48] (9 - (Lib.decDigits (p[x.1]?.getD 0).toNat).length) else []) ++ Lib.decDigits (p[x.1]?.getD 0).toNat)) []
theorem sst_snoc (p : List Int) (pre : List (Ix p.length)) (x : Ix p.length) : sst p (pre ++ [x]) = sst p pre ++ ((if x.1 + 1 < p.length then Lib.repeatL [48] (9 - (Lib.decDigits (p[x.1]?.getD 0).toNat).length) else []) ++ Lib.decDigits (p[x.1]?.getD 0).toNat) := by
  simp [sst]

theorem nDigits9 {d : Nat} (h : d < 1000000000) : (Lib.decDigits d).length ≤ 9 ∧ 1 ≤ (Lib.decDigits d).length := by
  rw [Lib.decDigits_length]
  refine ⟨?_, Lib.nDigits_pos d⟩
  rcases Nat.lt_or_ge 9 (Lib.nDigits d) with h' | h'
  · exfalso
    have key : ∀ k u, k < Lib.nDigits u → 0 < k → 10 ^ k ≤ u := by
      intro k
      induction k with
      | zero => intro u _ h; omega
      | succ k ih =>
        intro u h _
        by_cases hu : u < 10
        · rw [Lib.nDigits_small hu] at h; omega
        · rw [Lib.nDigits_big hu] at h
          rcases Nat.eq_zero_or_pos k with rfl | hk
          · simpa using (by omega : 10 ≤ u)
          · have := ih (u / 10) (by omega) hk
            rw [Nat.pow_succ]; omega
    have := key 9 d h' (by decide)
    simp at this; omega
  · exact h'

theorem sst_length {p : List Int} (hp : InR 1000000000 p) (pre : List (Ix p.length)) : (sst p pre).length ≤ 18 * pre.length := by
  have key : ∀ (l : List (Ix p.length)) (acc : List UInt8), (List.foldl (fun acc x => acc ++ ((if x.1 + 1 < p.length then Lib.repeatL [48] (9 - (Lib.decDigits (p[x.1]?.getD 0).toNat).length) else []) ++ Lib.decDigits (p[x.1]?.getD 0).toNat)) acc l).length ≤ acc.length + 18 * l.length := by
    intro l
    induction l with
    | nil => intro acc; simp
    | cons x l ih =>
      intro acc
      have b := hp.at_ (by decide) x.1
      rw [List.getD_eq_getElem?_getD] at b
      have h9 := nDigits9 (d := (p[x.1]?.getD 0).toNat) (by omega)
      refine Nat.le_trans (ih _) ?_
      dsimp only
      split
      · simp [Lib.repeatL_length]; omega
      · simp; omega
  have h := key pre []
  rw [List.length_nil, Nat.zero_add] at h
  exact h

theorem sst_dn {p : List Int} (hp : InR 1000000000 p) (ht : NoTop p) : ∀ k, k + 1 ≤ p.length →
    ∃ v : Nat, 0 < v ∧ val 1000000000 (p.drop (p.length - (k + 1))) = (v : Int) ∧ sst p (dn p.length (k + 1)) = Lib.decDigits v := by
  intro k
  induction k with
  | zero =>
    intro hk
    have b := hp.at_ (by decide) (p.length - 1)
    have t := last_of_noTop ht (p.length - 1) (by omega)
    obtain ⟨d, hd⟩ := Int.eq_ofNat_of_zero_le b.1
    refine ⟨d, by omega, ?_, ?_⟩
    · rw [val_drop _ _ _ (by omega), hd, show p.length - (0 + 1) + 1 = p.length by omega, List.drop_length]; simp [val]
    · rw [dn_succ p.length 0 (by omega), dn_zero, sst_snoc]
      have hdd : p[p.length - 1]?.getD 0 = (d : Int) := by rw [← List.getD_eq_getElem?_getD]; exact hd
      simp only [Nat.sub_zero, hdd, Int.toNat_natCast]
      rw [if_neg (by omega)]
      simp [sst]
  | succ k ih =>
    intro hk
    obtain ⟨v, h0, h1, h2⟩ := ih (by omega)
    obtain ⟨j, hj⟩ : ∃ j, j = p.length - (k + 1 + 1) := ⟨_, rfl⟩
    have ej : p.length - 1 - (k + 1) = j := by omega
    have b := hp.at_ (by decide) j
    obtain ⟨d, hd⟩ := Int.eq_ofNat_of_zero_le b.1
    have hdd : p[j]?.getD 0 = (d : Int) := by rw [← List.getD_eq_getElem?_getD]; exact hd
    refine ⟨d + 1000000000 * v, by omega, ?_, ?_⟩
    · rw [← hj, val_drop _ _ _ (by omega), show j + 1 = p.length - (k + 1) from by omega, h1, hd]
      simp
    · rw [dn_succ p.length (k + 1) (by omega), sst_snoc, h2]
      simp only [ej, hdd, Int.toNat_natCast]
      rw [if_pos (by omega), ← pad_eq 9 d (by decide) (by omega), ← decDigits_shift 9 d v h0 (by omega)]

theorem sst_all {p : List Int} {m : Nat} (hm : p = Go.Proofs.YtekbfommnmikbaaGreatDoor.dg 1000000000 m) (h0 : p ≠ []) : sst p (dn p.length p.length) = Lib.decDigits m := by
  have hl : 0 < p.length := List.length_pos_iff.2 h0
  obtain ⟨v, h1, h2, h3⟩ := sst_dn (p := p) (by rw [hm]; exact dg_inR (by decide) m) (by rw [hm]; exact dg_noTop (by decide) m) (p.length - 1) (by omega)
  rw [show p.length - 1 + 1 = p.length by omega] at h2 h3
  rw [Nat.sub_self, List.drop_zero, hm, val_dg (by decide)] at h2
  have : m = v := by exact_mod_cast h2
  rw [h3, this]


theorem heap_box {w : World} {b : Nat} {cs : Array Value} {t : TypeId} (h : w.heap[b]? = some (.cells cs t (0, 0))) (i : Nat) : w.cell? ⟨b, i, none⟩ = cs[i]? := cell_of_heap h i
theorem builder_kept {T e : TypeId} {B b : Nat} {bs : List Value} {W W' : World} {row : Option Nat} (h : Lib.IsBuilder T e B b bs W) (hg : W.grownBy W' row) (hr : ∀ r, row = some r → ∃ o : Obj, W.heap[r]? = some o ∧ o.isCells = false) : Lib.IsBuilder T e B b bs W' := by
  have key : ∀ p, Lib.BuilderAt T e B b p bs W → Lib.BuilderAt T e B b p bs W' := by
    rintro p ⟨hB, v, hb, hown, hne⟩
    refine ⟨hB, v, ?_, own_kept hown hg hr, hne⟩
    rw [hg.block b (Array.getElem?_eq_some_iff.1 hb).1 ?_]
    · exact hb
    · intro e'
      obtain ⟨o, ho, hc⟩ := hr b e'.symm
      rw [hb] at ho; cases ho; cases hc
  exact h.elim (fun x => .inl (key _ x)) (fun x => .inr (key _ x))
theorem builder_below {T e : TypeId} {B b : Nat} {bs : List Value} {W W' : World} (h : Lib.IsBuilder T e B b bs W) (hb : Below W.heap.size W W') : Lib.IsBuilder T e B b bs W' := by
  have key : ∀ p, Lib.BuilderAt T e B b p bs W → Lib.BuilderAt T e B b p bs W' := by
    rintro p ⟨hB, v, hbk, hown, hne⟩
    exact ⟨hB, v, (hb.block b (Array.getElem?_eq_some_iff.1 hbk).1).trans hbk, own_below hown hb, hne⟩
  exact h.elim (fun x => .inl (key _ x)) (fun x => .inr (key _ x))
theorem heap_kept {W W' : World} {b : Nat} {cs : Array Value} {t : TypeId} {fz : Nat × Nat} {row : Option Nat} (h : W.heap[b]? = some (.cells cs t fz)) (hg : W.grownBy W' row) (hr : ∀ r, row = some r → ∃ o : Obj, W.heap[r]? = some o ∧ o.isCells = false) : W'.heap[b]? = some (.cells cs t fz) := by
  rw [hg.block b (Array.getElem?_eq_some_iff.1 h).1 ?_]
  · exact h
  · intro e'
    obtain ⟨o, ho, hc⟩ := hr b e'.symm
    rw [h] at ho; cases ho; cases hc
theorem heap_below {W W' : World} {b : Nat} {o : Obj} (h : W.heap[b]? = some o) (hb : Below W.heap.size W W') : W'.heap[b]? = some o := (hb.block b (Array.getElem?_eq_some_iff.1 h).1).trans h
theorem heap_others {e : TypeId} {c : Nat} {W W' : World} {b : Nat} {cs : Array Value} {t : TypeId} {fz : Nat × Nat} (h : W.heap[b]? = some (.cells cs t fz)) (hb : Lib.OthersKept e (some c) W W') (h1 : b ≠ c) (h2 : t ≠ e) : W'.heap[b]? = some (.cells cs t fz) :=
  hb b _ h (fun e' => h1 (by cases e'; rfl)) (fun c' fz' e' => by cases e'; exact h2 rfl)
theorem keepsOthers_others {e : TypeId} {c B : Nat} {W W' : World} (h : Lib.OthersKept e (some c) W W') (hb : Below B W W') (hc : ∀ o, W.heap[c]? = some o → o.isCells = true) : KeepsOthers W W' :=
  ⟨hb.size, fun k o hk ho => h k o hk (fun e' => by cases e'; rw [hc o hk] at ho; cases ho) (fun c' fz' e' => by subst e'; cases ho)⟩
theorem builder_cells {T e : TypeId} {B b : Nat} {bs : List Value} {W : World} (h : Lib.IsBuilder T e B b bs W) : ∀ o, W.heap[b]? = some o → o.isCells = true := by
  intro o ho
  rcases h with ⟨_, v, hb, _⟩ | ⟨_, v, hb, _⟩ <;> · rw [hb] at ho; cases ho; rfl

theorem var_stay {P : Program} {W W' : World} {n : String} {cs : Array Value} (h : W.var? P n = some cs) (hb : Below W.heap.size W W') : W'.var? P n = some cs := by
  unfold World.var? at h ⊢
  cases hg : P.globalNamed n with
  | none => rw [hg] at h; cases h
  | some g =>
    rw [hg] at h
    simp only [Option.bind_some] at h ⊢
    have hlt : g < W.heap.size := by
      rcases Nat.lt_or_ge g W.heap.size with h' | h'
      · exact h'
      · rw [Array.getElem?_eq_none h'] at h; cases h
    rw [hb.block g hlt]
    exact h

/-- What the texts read of the tables that start-up code lays. -/
structure Tabs (w : World) : Prop where
  pow10 : Lib.TabIs Tryz.prog w "internal/strconv.uint64pow10" .u64 Lib.pow10Tab
  digit : Lib.TabIs Tryz.prog w "mjolner/number.digit" .u8 [48, 49, 50, 51, 52, 53, 54, 55, 56, 57, 97, 98, 99, 100, 101, 102, 103, 104, 105, 106, 107, 108, 109, 110, 111, 112, 113, 114, 115, 116, 117, 118, 119, 120, 121, 122]
  range : ∃ tp p, w.var? Tryz.prog "strconv.ErrRange" = some #[.iface tp p]
  syn : ∃ tp p, w.var? Tryz.prog "strconv.ErrSyntax" = some #[.iface tp p]
theorem Tabs.below {w w' : World} (h : Tabs w) (hb : Below w.heap.size w w') : Tabs w' :=
  ⟨var_stay h.pow10 hb, var_stay h.digit hb, h.range.imp fun _ h => h.imp fun _ h => var_stay h hb, h.syn.imp fun _ h => h.imp fun _ h => var_stay h hb⟩

theorem itoa_c (d : Nat) (hd : d < 1000000000) (w : World) (ht : Tabs w) : Calls Tryz.prog 99 #[.int .i64 d] w fun e w' => e = .returned (.string ⟨(Lib.decDigits d).toArray⟩) ∧ Below w.heap.size w w' := by
  refine (Tryz.strconv_Itoa d (by omega) (by omega) w ht.pow10).mono ?_
  rintro e w' ⟨rfl, k, os, rfl⟩
  refine ⟨by simp [Lib.itoa], ?_⟩
  exact Lib.below_grow _ w (Nat.le_refl _) k os


theorem boxes3h (w : World) (a0 a1 a2 : Array Value) (t0 t1 t2 : TypeId) : ∃ W, ((w.alloc (.cells a0 t0)).alloc (.cells a1 t1)).alloc (.cells a2 t2) = W ∧ W.heap[w.heap.size]? = some (.cells a0 t0 (0, 0)) ∧ W.heap[w.heap.size + 1]? = some (.cells a1 t1 (0, 0)) ∧ W.heap[w.heap.size + 1 + 1]? = some (.cells a2 t2 (0, 0)) ∧ Bel w.heap.size w W ∧ W.heap.size = w.heap.size + 1 + 1 + 1 :=
  ⟨_, rfl, heap_old _ (heap_old _ (heap_alloc_new _ _)), heap_old _ (heap_new' _ _ _ (by simp)), heap_new' _ _ _ (by simp), (((Bel.refl _ _ (Nat.le_refl _)).alloc _).alloc _).alloc _, by simp⟩

theorem rep_size (k : Nat) : (ByteArray.mk (Lib.repeatL [48] k).toArray).size = k := by
  show (Lib.repeatL [48] k).toArray.size = k
  simp [Lib.repeatL_length]
/-- Where a round of String stands. -/
structure SB (B : Nat) (V : World) (v : Value) (bs : List Value) (V1 : World) : Prop where
  hp : V1.heap[B]? = some (.cells #[v] 134 (0, 0))
  hd : V1.heap[B + 1 + 1]? = some (.cells #[v] 134 (0, 0))
  bu : Lib.IsBuilder 166 5 B (B + 1) bs V1
  ov : Ov B (B + 1 + 1) V V1
theorem SB.call {B : Nat} {V : World} {v : Value} {bs : List Value} {V1 V2 : World} (h : SB B V v bs V1) (hb : Below V1.heap.size V1 V2) : SB B V v bs V2 :=
  ⟨heap_below h.hp hb, heap_below h.hd hb, builder_below h.bu hb, h.ov.call hb⟩
theorem SB.write {B : Nat} {V : World} {v : Value} {bs bs' : List Value} {V1 V2 : World} {q : Value} (h : SB B V v bs V1) (h1 : Lib.BuilderAt 166 5 B (B + 1) q bs' V2) (hq : q = .pointer (some ⟨B + 1, 0, none⟩)) (hb : Below B V1 V2) (hk : Lib.OthersKept 5 (some (B + 1)) V1 V2) : SB B V v bs' V2 := by
  have e1 := heap_others h.hd hk (by omega) (by decide)
  refine ⟨heap_others h.hp hk (by omega) (by decide), e1, .inr (by subst hq; exact h1), h.ov.b.trans hb, h.ov.ko.trans (keepsOthers_others hk hb (builder_cells h.bu)), ?_, h.ov.lt⟩
  rw [e1, ← h.ov.bx, h.hd]
theorem SB.size {B : Nat} {V : World} {v : Value} {bs : List Value} {V1 : World} (h : SB B V v bs V1) : B ≤ V1.heap.size := by
  have := (Array.getElem?_eq_some_iff.1 h.hp).1
  omega

set_option maxRecDepth 100000 in
set_option maxHeartbeats 4000000 in
theorem string_in (v1 : Value) (m : Nat) (w : World) (h1 : Dg 1000000000 w v1 m) (ht : Tabs w) (hl : (dg 1000000000 m).length ≤ 1000000) :
    CallsIn Fence.wide 6 Tryz.prog 196 #[v1] w fun e w' => e = .returned (.string ⟨(Lib.decDigits m).toArray⟩) ∧ Below w.heap.size w w' := by
  obtain ⟨A1, c1, rfl, hc1, hm1, hr1⟩ := h1
  have HT := Lib.hid ht
  clear ht
  by_cases h0 : dg 1000000000 m = []
  · have hm0 : m = 0 := (dg_eq_nil (by decide)).1 h0
    subst hm0
    rw [dg_zero]
    refine callsIn_wide.2 ?_
    clear hr1
    go_enter Tryz.func196, Tryz.ntmps196
    go_wp2
    go_ret
    exact ⟨by rw [Lib.decDigits_one (by decide)]; rfl, (by repeat (first | exact Below.refl _ _ | exact HB.out | (refine Below.alloc ?_ (by first | (simp; done) | (simp; omega)) _) | (refine Below.setCell ?_ (by first | (simp; done) | (simp; omega)) _) | refine Below.drew ?_ | refine below_drewN ?_ _))⟩
  · have HR1 := Lib.hid hr1
    have I1 := Lib.hid (dg_inR (b := 1000000000) (by decide) m)
    have HSA := Lib.hid (sst_all (p := dg 1000000000 m) rfl h0)
    have hAb : ∀ a, A1 = some a → (dg 1000000000 m).length = 0 ∨ a.block < w.heap.size := fun a ha => by
      rcases Nat.eq_zero_or_pos (dg 1000000000 m).length with h | h
      · exact .inl h
      · obtain ⟨a', e', hc'⟩ := hr1 0 h
        rw [ha] at e'; cases e'
        exact .inr (by have := World.block_lt_of_cell? w _ hc'; rwa [add_block] at this)
    have HAB := Lib.hid hAb
    clear hr1 hAb
    generalize dg 1000000000 m = p at *
    have hpos : 0 < p.length := List.length_pos_iff.2 h0
    have hne : ¬ (p.length : Int) = 0 := by omega
    clear h0
    refine callsIn_of_wp_marks Tryz.func196 rfl trivial ?_ rfl
    simp only [Tryz.ntmps196, List.size_toArray, List.length_cons, List.length_nil, Nat.reduceAdd, Nat.reduceSub, Array.replicate_succ, Array.replicate_zero, List.push_toArray, List.append_toArray, List.nil_append, List.cons_append]
    gi_wp2_with (refine ⟨trivial, ?_⟩; gi_at_call 223; refine (down_in Fence.wide (6 - 1) trivial rfl _ _ _ _).mono ?_; rintro e w' ⟨rfl, rfl⟩)
    obtain ⟨W, hW, k0, k1, k2, hbel, hsz⟩ := boxes3h w #[.slice A1 p.length c1] #[.pointer none, .slice none 0 0] #[.slice A1 p.length c1] 134 166 134
    rw [hW]
    have hb0 : Lib.IsBuilder 166 5 w.heap.size (w.heap.size + 1) (Lib.byteCells (sst p [])) W := .inl ⟨by omega, _, k1, World.ownsRow_nil _ _ _ _, by simp [Value.ownBlock]⟩
    refine wpIn_rangeFunc_ownF rfl (by decide) (gf := 239) (lb := #[.pointer (some ⟨w.heap.size + 1 + 1, 0, none⟩)]) rfl trivial (enters_of Tryz.func239 (by kernel_rfl) rfl)
      (down_stops Fence.wide (6 - 1) trivial rfl (by decide) (w.heap.size + 1 + 1) w.heap.size A1 c1 p (by omega) W (by rw [hsz]; omega) (fun a ha => ?hA) (by rw [hsz]; omega) (heap_box k2 0) (HR1.out.below hbel.to)) Kd.t (Kd.b (by rw [hsz]; omega) (by rw [hsz]; omega)) (Below.refl _ _) (fun _ => rfl)
      (fun pre V => (V.heap[w.heap.size]? = some (.cells #[.slice A1 p.length c1] 134 (0, 0)) ∧ V.heap[w.heap.size + 1 + 1]? = some (.cells #[.slice A1 p.length c1] 134 (0, 0)) ∧ Lib.IsBuilder 166 5 w.heap.size (w.heap.size + 1) (Lib.byteCells (sst p pre)) V) ∧ Below w.heap.size w V)
      (fun c pre V => False)
      (OwnFrom.and (Own.from (fun s X Y row hs hg hr => ⟨heap_kept hs.1 hg hr, heap_kept hs.2.1 hg hr, builder_kept hs.2.2 hg hr⟩) _) (ownFrom_below (Nat.le_refl _) (by rw [hsz]; omega)))
      (fun c s X Y row hs _ _ => hs)
      ⟨⟨k0, k2, hb0⟩, hbel.to⟩
      (fun x => { tmps := (.slice A1 p.length c1 :: .pointer (some ⟨w.heap.size, 0, none⟩) :: .string { data := #[] } :: .pointer (some ⟨w.heap.size + 1, 0, none⟩) :: .int .i64 ((x.1 : Nat) : Int) :: .int .i64 (p[x.1]?.getD 0) :: undef :: .slice A1 p.length c1 :: .int .i64 p.length :: .bool false :: .slice A1 p.length c1 :: .func (.func 239) #[] #[.pointer (some ⟨w.heap.size + 1 + 1, 0, none⟩)] :: .int .i64 ((x.1 : Nat) : Int) :: .int .i64 (p[x.1]?.getD 0) :: undef :: undef :: undef :: undef :: undef :: undef :: undef :: undef :: undef :: undef :: undef :: undef :: undef :: undef :: undef :: []).toArray, defers := [] }) ?assign ?body ?done ?stop
    case hA => exact HAB.out a ha
    case assign =>
      intro l x W K hK
      gi_wp2
      exact hK
    case stop => rintro _ _ _ _ _ _ h; exact h.elim
    case body =>
      rintro l pre x V ⟨⟨a1, a2, a3⟩, hB⟩ hpl
      obtain ⟨xi, hxi⟩ := x
      dsimp only at *
      obtain ⟨b0, b1⟩ := I1.out.at_ (by decide) xi
      rw [List.getD_eq_getElem?_getD] at b0 b1
      have ESN := Lib.hid (sst_snoc p pre ⟨xi, hxi⟩)
      have hsl := sst_length I1.out pre
      dsimp only at ESN
      obtain ⟨d, hd⟩ := Int.eq_ofNat_of_zero_le b0
      rw [hd] at b1 ESN ⊢
      have hdt : d < 1000000000 := by omega
      have HDT := Lib.hid hdt
      have h9 := nDigits9 hdt
      obtain ⟨S, hS⟩ : ∃ S : ByteArray, ⟨(Lib.decDigits d).toArray⟩ = S := ⟨_, rfl⟩
      have hss : S.size = (Lib.decDigits d).length := by rw [← hS]; simp [ByteArray.size]
      have hrep : (9 : Int) - S.size = ((9 - S.size : Nat) : Int) := by omega
      have hs9 : S.size ≤ 9 := by omega
      have HSS := Lib.hid hS
      have HTV := Lib.hid (HT.out.below hB)
      have HSB : Hid (SB w.heap.size V (.slice A1 p.length c1) (Lib.byteCells (sst p pre)) V) := ⟨a1, a2, a3, Ov.refl hB.size (by have := (Array.getElem?_eq_some_iff.1 a2).1; omega)⟩
      have hsl2 : (sst p pre).length ≤ 18000000 := by omega
      have HBB := Lib.hid hB
      clear b0 b1 hdt h9 hss hpl hS hsl a1 a2 a3 hB hd hW k0 k1 k2 hb0
      by_cases hc : xi + 1 < p.length
      · have hci : (xi : Int) < (p.length : Int) - 1 := by omega
        have HC := Lib.hid hc
        clear hc
        gi_wp2_with (first | (refine ⟨trivial, ?_⟩; gi_at_call 99; refine (CallsIn.inRound l (callsIn_wide.2 (itoa_c d HDT.out _ HTV.out))).mono ?_; rintro e w' ⟨rfl, hb⟩; rw [HSS.out]; have HSB := Lib.hid (HSB.out.call hb); have cp : w'.cell? ⟨w.heap.size, 0, none⟩ = some (.slice A1 p.length c1) := heap_box HSB.out.hp 0; clear hb) | (refine ⟨trivial, ?_⟩; gi_at_call 101; (try rw [hrep]); refine (CallsIn.inRound l (callsIn_wide.2 (Tryz.strings_Repeat ⟨#[48]⟩ (9 - S.size) _ (by omega) (by show 1 * (9 - S.size) ≤ _; omega)))).mono ?_; rintro e w' ⟨rfl, hb⟩; have HSB := Lib.hid (HSB.out.call hb); clear hb) | (refine ⟨trivial, ?_⟩; gi_at_call 170; refine (CallsIn.inRound l (callsIn_wide.2 (writeString_c _ _ _ _ _ HSB.out.bu (by simp only [List.length_append, Lib.byteCells_length, Lib.strCells_length, rep_size]; omega) HSB.out.size))).mono ?_; rintro e w' ⟨rfl, h1, hb, hok⟩; have HSB := Lib.hid (HSB.out.write h1 rfl hb hok); clear h1 hb hok))
        have hend := HSB.out
        refine ⟨hend.ov.ko, hend.ov.kd, ⟨hend.hp, hend.hd, ?_⟩, HBB.out.trans hend.ov.b⟩
        rw [ESN.out, if_pos HC.out]
        have e3 := hend.bu
        rw [← HSS.out] at e3
        simpa [Lib.byteCells_append, Lib.strCells_eq, ByteArray.size] using e3
      · have hci : ¬ (xi : Int) < (p.length : Int) - 1 := by omega
        have HC := Lib.hid hc
        clear hc
        gi_wp2_with (first | (refine ⟨trivial, ?_⟩; gi_at_call 99; refine (CallsIn.inRound l (callsIn_wide.2 (itoa_c d HDT.out _ HTV.out))).mono ?_; rintro e w' ⟨rfl, hb⟩; rw [HSS.out]; have HSB := Lib.hid (HSB.out.call hb); have cp : w'.cell? ⟨w.heap.size, 0, none⟩ = some (.slice A1 p.length c1) := heap_box HSB.out.hp 0; clear hb) | (refine ⟨trivial, ?_⟩; gi_at_call 101; (try rw [hrep]); refine (CallsIn.inRound l (callsIn_wide.2 (Tryz.strings_Repeat ⟨#[48]⟩ (9 - S.size) _ (by omega) (by show 1 * (9 - S.size) ≤ _; omega)))).mono ?_; rintro e w' ⟨rfl, hb⟩; have HSB := Lib.hid (HSB.out.call hb); clear hb) | (refine ⟨trivial, ?_⟩; gi_at_call 170; refine (CallsIn.inRound l (callsIn_wide.2 (writeString_c _ _ _ _ _ HSB.out.bu (by simp only [List.length_append, Lib.byteCells_length, Lib.strCells_length, rep_size]; omega) HSB.out.size))).mono ?_; rintro e w' ⟨rfl, h1, hb, hok⟩; have HSB := Lib.hid (HSB.out.write h1 rfl hb hok); clear h1 hb hok))
        have hend := HSB.out
        refine ⟨hend.ov.ko, hend.ov.kd, ⟨hend.hp, hend.hd, ?_⟩, HBB.out.trans hend.ov.b⟩
        rw [ESN.out, if_neg HC.out]
        have e3 := hend.bu
        rw [← HSS.out] at e3
        simpa [Lib.byteCells_append, Lib.strCells_eq, ByteArray.size] using e3
    case done =>
      rintro D ys V hD rfl ⟨⟨a1, a2, a3⟩, hB⟩ hK
      rw [HSA.out] at a3
      have HBU := Lib.hid a3
      have HBB := Lib.hid hB
      have HK := Lib.hid hK
      clear hW k0 k1 k2 hb0 a1 a2 a3 hB hK
      gi_wp2_with (refine ⟨trivial, ?_⟩; gi_at_call 172; refine (callsIn_wide.2 (Tryz.Builder_String_any_k _ _ (Lib.decDigits m) _ (Lib.IsBuilderF.of HBU.out) HBB.out.size)).mono ?_; rintro e w' ⟨rfl, -, hb, hok⟩)
      have hK' := (keepsOthers_others hok hb (builder_cells HBU.out)).same D _ HK.out rfl
      refine ⟨by simp, .inl ⟨_, _, rfl, run_takeDeferred hK', ?_⟩⟩
      refine ⟨.string ⟨(Lib.decDigits m).toArray⟩, ?_, rfl, (HBB.out.trans hb).trans (belowK_b (w := w) (Nat.le_refl _) _ D _ _ (by omega) hK' rfl rfl)⟩
      simp [results, Tryz.f196, go_sem]

theorem string_c (v1 : Value) (m : Nat) (w : World) (h1 : Dg 1000000000 w v1 m) (ht : Tabs w) (hl : (dg 1000000000 m).length ≤ 1000000) :
    Calls Tryz.prog 196 #[v1] w fun e w' => e = .returned (.string ⟨(Lib.decDigits m).toArray⟩) ∧ Below w.heap.size w w' := callsIn_wide.1 (string_in v1 m w h1 ht hl)

end Go.Proofs.YtekbfommnmikbaaGreatDoor

namespace Go.Proofs.YtekbfommnmikbaaGreatDoor
set_option linter.unusedVariables false
set_option linter.unusedSimpArgs false
open Go.RowKit
attribute [local go_sem] max2_int min2_int max_two min_two

theorem add_sign_same {x y : Int} {bx by_ : Bool} (h1 : decide (x < 0) = bx) (h2 : decide (y < 0) = by_) (h3 : bx = by_) : x.natAbs + y.natAbs = (x + y).natAbs ∧ (bx && decide (0 < x.natAbs + y.natAbs)) = decide (x + y < 0) := by
  subst h3
  have h4 : (x < 0) ↔ (y < 0) := by rw [← decide_eq_decide, h1, h2]
  subst h1
  by_cases hx : x < 0
  · have hy := h4.1 hx
    refine ⟨by omega, ?_⟩
    rw [decide_eq_true hx, decide_eq_true (by omega : 0 < x.natAbs + y.natAbs), decide_eq_true (by omega : x + y < 0)]; rfl
  · have hy : ¬ y < 0 := fun h => hx (h4.2 h)
    refine ⟨by omega, ?_⟩
    rw [decide_eq_false hx, decide_eq_false (by omega : ¬ x + y < 0)]; rfl
theorem add_sign_ge {x y : Int} {bx by_ : Bool} (h1 : decide (x < 0) = bx) (h2 : decide (y < 0) = by_) (h3 : ¬ bx = by_) (h : y.natAbs ≤ x.natAbs) : x.natAbs - y.natAbs = (x + y).natAbs ∧ (bx && decide (0 < x.natAbs - y.natAbs)) = decide (x + y < 0) := by
  have h4 : ¬ ((x < 0) ↔ (y < 0)) := by rw [← decide_eq_decide, h1, h2]; exact h3
  subst h1
  by_cases hx : x < 0
  · have hy : ¬ y < 0 := fun k => h4 ⟨fun _ => k, fun _ => hx⟩
    refine ⟨by omega, ?_⟩
    rw [decide_eq_true hx, Bool.true_and, decide_eq_decide]; omega
  · have hy : y < 0 := by
      rcases Int.lt_or_le y 0 with k | k
      · exact k
      · exact absurd ⟨fun a => absurd a hx, fun a => absurd a (by omega)⟩ h4
    refine ⟨by omega, ?_⟩
    rw [decide_eq_false hx, decide_eq_false (by omega : ¬ x + y < 0)]; rfl
theorem add_sign_lt {x y : Int} {bx by_ : Bool} (h1 : decide (x < 0) = bx) (h2 : decide (y < 0) = by_) (h3 : ¬ bx = by_) (h : ¬ y.natAbs ≤ x.natAbs) : y.natAbs - x.natAbs = (x + y).natAbs ∧ (by_ && decide (0 < y.natAbs - x.natAbs)) = decide (x + y < 0) := by
  rw [Int.add_comm x y]
  exact add_sign_ge h2 h1 (fun e => h3 e.symm) (by omega)

set_option maxHeartbeats 2000000 in
set_option maxRecDepth 100000 in
theorem add_same (v1 v2 : Value) (x y : Int) (w : World) (h1 : Wh w v1 x) (h2 : Wh w v2 y) (hm : (dg 1000000000 x.natAbs).length ≤ 1000000) (hn : (dg 1000000000 y.natAbs).length ≤ 1000000) (hxy : decide (x < 0) = decide (y < 0)) :
    Calls Tryz.prog 142 #[v1, v2] w (WhPN (x + y) w) := by
  obtain ⟨p, rfl, hp⟩ := h1
  obtain ⟨q, rfl, hq⟩ := h2
  have HP := Lib.hid hp
  have HQ := Lib.hid hq
  clear hp hq
  generalize hbx : decide (x < 0) = bx at *
  generalize hby : decide (y < 0) = by_ at *
  have HBX := Lib.hid (And.intro hbx (And.intro hby hxy))
  have hbb : (bx == by_) = true := by simp [hxy]
  clear hbx hby hxy
  go_enter Tryz.func142, Tryz.ntmps142
  go_wp2_with fail
  obtain ⟨W, hW, k0, k1, k2, f0, f1, f2, hbel, hsz⟩ := boxes3 w #[.bool bx, p] #[.bool by_, q] #[.bool false, .slice none 0 0] 136 136 136; rw [hW]; have c00 := k0 0; have c01 := k0 1; have c10 := k1 0; have c11 := k1 1; have c20 := k2 0; have c21 := k2 1; have f20 := f2 0; have f21 := f2 1; simp at c00 c01 c10 c11 c20 c21; have s20 : (W.cell? ⟨w.heap.size + 1 + 1, 0, none⟩).isSome = true := by rw [c20]; rfl
  have s21 : (W.cell? ⟨w.heap.size + 1 + 1, 1, none⟩).isSome = true := by rw [c21]; rfl
  clear k0 k1 k2 f0 f1 f2 c20 c21 hsz hW
  go_wp2_with fail
  go_region_held3 (fun w' => w'.cell? ⟨w.heap.size, 0, none⟩ = some (.bool bx) ∧ w'.cell? ⟨w.heap.size, 1, none⟩ = some p ∧ w'.cell? ⟨w.heap.size + 1, 0, none⟩ = some (.bool by_) ∧ w'.cell? ⟨w.heap.size + 1, 1, none⟩ = some q ∧ (w'.cell? ⟨w.heap.size + 1 + 1, 0, none⟩).isSome = true ∧ (w'.cell? ⟨w.heap.size + 1 + 1, 1, none⟩).isSome = true ∧ w'.frozen? ⟨w.heap.size + 1 + 1, 0, none⟩ = false ∧ w'.frozen? ⟨w.heap.size + 1 + 1, 1, none⟩ = false ∧ Bel w.heap.size w w')
    ((go_split_ands; refine ⟨?_, ?_, ?_, ?_, ?_, ?_, ?_, ?_, ?_⟩ <;> (first | assumption | exact keep_cell hbz (by assumption) | exact keep_some hbz (by assumption) | exact keep_free hbz (by assumption) (by assumption) | exact keep_free' hbz (by assumption) (by assumption) | exact Bel.call (by assumption) hbz | exact Bel.drew (by assumption) | ((repeat (first | assumption | (refine Bel.set ?_ _ (by first | (simp; done) | (simp; omega))) | refine Bel.drew ?_)); done) | exact some_set (by assumption) | exact some_set (some_set (by assumption)) | (refine set_far _ (by first | (simp; done) | (simp; omega)) (set_far _ (by first | (simp; done) | (simp; omega)) (by assumption))) | (refine set_far _ (by first | (simp; done) | (simp; omega)) (by assumption)) | (simp only [World.frozen?_setCell]; assumption) | (simp [*]; done))))
    (first
      | (go_at_call 190; refine (plus_c p q x.natAbs y.natAbs _ ?_ ?_ hm hn).mono ?_; (go_split_ands; exact HP.out.below (Bel.to (by assumption))); (go_split_ands; exact HQ.out.below (Bel.to (by assumption))); rintro e w' ⟨u, rfl, hu, hfu, hbz⟩; go_must (have HF := Lib.hid (hfu.mono (Nat.succ_le_of_lt (lt_of_some (a := ⟨w.heap.size + 1 + 1, 0, none⟩) (by go_split_ands; assumption)))); have HU := Lib.hid hu; clear hu hfu))
      | (go_at_call 189; obtain ⟨Az_, nz_, cz_, hform⟩ := HU.out.form; subst hform; refine (made_c _ _ (x.natAbs + y.natAbs) _ HU.out).mono ?_; rintro e w' ⟨rfl, hbz⟩; have HV := Lib.hid (HU.out.below hbz); clear HU)
      | (go_split_ands; obtain ⟨zu0, hzu0⟩ := Option.isSome_iff_exists.1 (show (World.cell? _ ⟨w.heap.size + 1 + 1, 0, none⟩).isSome = true by assumption); obtain ⟨zu1, hzu1⟩ := Option.isSome_iff_exists.1 (show (World.cell? _ ⟨w.heap.size + 1 + 1, 1, none⟩).isSome = true by assumption); go_simp))
  go_wp2
  go_split_ands
  refine bodyPost_ret (v := .agg #[.bool (bx && decide (0 < x.natAbs + y.natAbs)), .slice Az_ nz_ cz_]) (by simp [results, Tryz.results142, go_sem, hzu0, hzu1]) rfl ?_
  obtain ⟨h1, h2, h3⟩ := HBX.out
  refine whPN_mk ?_ ?_ (HF.out.mono (by omega)) (Bel.to (by assumption))
  · exact (add_sign_same h1 h2 h3).2
  · rw [← (add_sign_same h1 h2 h3).1]; exact Dg.set (Dg.set HV.out HF.out (by simp) _) HF.out (by simp) _

set_option maxHeartbeats 4000000 in
set_option maxRecDepth 100000 in
theorem add_diff (v1 v2 : Value) (x y : Int) (w : World) (h1 : Wh w v1 x) (h2 : Wh w v2 y) (hm : (dg 1000000000 x.natAbs).length ≤ 1000000) (hn : (dg 1000000000 y.natAbs).length ≤ 1000000) (hxy : ¬ decide (x < 0) = decide (y < 0)) :
    Calls Tryz.prog 142 #[v1, v2] w (WhPN (x + y) w) := by
  obtain ⟨p, rfl, hp⟩ := h1
  obtain ⟨q, rfl, hq⟩ := h2
  have HP := Lib.hid hp
  have HQ := Lib.hid hq
  clear hp hq
  generalize hbx : decide (x < 0) = bx at *
  generalize hby : decide (y < 0) = by_ at *
  have HBX := Lib.hid (And.intro hbx (And.intro hby hxy))
  have hbb : (bx == by_) = false := by simp [hxy]
  clear hbx hby hxy
  obtain ⟨s, hs⟩ : ∃ s, sgn ((x.natAbs : Int) - y.natAbs) = s := ⟨_, rfl⟩
  have HSG := Lib.hid hs
  by_cases hle : y.natAbs ≤ x.natAbs
  · have hs0 : 0 ≤ s := by
      rw [← hs]
      rcases Nat.eq_or_lt_of_le hle with h | h
      · rw [h, Int.sub_self]; decide
      · rw [sgn_gt (by omega)]; decide
    have HLE := Lib.hid hle
    clear hs hle
    go_enter Tryz.func142, Tryz.ntmps142
    go_wp2_with fail
    obtain ⟨W, hW, k0, k1, k2, f0, f1, f2, hbel, hsz⟩ := boxes3 w #[.bool bx, p] #[.bool by_, q] #[.bool false, .slice none 0 0] 136 136 136; rw [hW]; have c00 := k0 0; have c01 := k0 1; have c10 := k1 0; have c11 := k1 1; have c20 := k2 0; have c21 := k2 1; have f20 := f2 0; have f21 := f2 1; simp at c00 c01 c10 c11 c20 c21; have s20 : (W.cell? ⟨w.heap.size + 1 + 1, 0, none⟩).isSome = true := by rw [c20]; rfl
    have s21 : (W.cell? ⟨w.heap.size + 1 + 1, 1, none⟩).isSome = true := by rw [c21]; rfl
    clear k0 k1 k2 f0 f1 f2 hsz hW
    go_wp2_with (go_at_call 191; refine (compare_c p q x.natAbs y.natAbs _ (HP.out.below hbel.to) (HQ.out.below hbel.to)).mono ?_; rintro e W2 ⟨he, hbz⟩; rw [HSG.out] at he; subst he; have c00 := keep_cell hbz c00; have c01 := keep_cell hbz c01; have c10 := keep_cell hbz c10; have c11 := keep_cell hbz c11; have f20 := keep_free' hbz c20 f20; have f21 := keep_free' hbz c21 f21; have s20 := keep_some hbz s20; have s21 := keep_some hbz s21; have hbel := hbel.call hbz; clear c20 c21 hbz)
    go_region_held3 (fun w' => w'.cell? ⟨w.heap.size, 0, none⟩ = some (.bool bx) ∧ w'.cell? ⟨w.heap.size, 1, none⟩ = some p ∧ w'.cell? ⟨w.heap.size + 1, 0, none⟩ = some (.bool by_) ∧ w'.cell? ⟨w.heap.size + 1, 1, none⟩ = some q ∧ (w'.cell? ⟨w.heap.size + 1 + 1, 0, none⟩).isSome = true ∧ (w'.cell? ⟨w.heap.size + 1 + 1, 1, none⟩).isSome = true ∧ w'.frozen? ⟨w.heap.size + 1 + 1, 0, none⟩ = false ∧ w'.frozen? ⟨w.heap.size + 1 + 1, 1, none⟩ = false ∧ Bel w.heap.size w w')
      ((go_split_ands; refine ⟨?_, ?_, ?_, ?_, ?_, ?_, ?_, ?_, ?_⟩ <;> (first | assumption | exact keep_cell hbz (by assumption) | exact keep_some hbz (by assumption) | exact keep_free hbz (by assumption) (by assumption) | exact keep_free' hbz (by assumption) (by assumption) | exact Bel.call (by assumption) hbz | exact Bel.drew (by assumption) | ((repeat (first | assumption | (refine Bel.set ?_ _ (by first | (simp; done) | (simp; omega))) | refine Bel.drew ?_)); done) | exact some_set (by assumption) | exact some_set (some_set (by assumption)) | (refine set_far _ (by first | (simp; done) | (simp; omega)) (set_far _ (by first | (simp; done) | (simp; omega)) (by assumption))) | (refine set_far _ (by first | (simp; done) | (simp; omega)) (by assumption)) | (simp only [World.frozen?_setCell]; assumption) | (simp [*]; done))))
      (first
        | (go_at_call 192; refine (minus_c p q x.natAbs y.natAbs _ ?_ ?_ hm HLE.out).mono ?_; (go_split_ands; exact HP.out.below (Bel.to (by assumption))); (go_split_ands; exact HQ.out.below (Bel.to (by assumption))); rintro e w' ⟨u, rfl, hu, hfu, hbz⟩; go_must (have HF := Lib.hid (hfu.mono (Nat.succ_le_of_lt (lt_of_some (a := ⟨w.heap.size + 1 + 1, 0, none⟩) (by go_split_ands; assumption)))); have HU := Lib.hid hu; clear hu hfu))
        | (go_at_call 189; obtain ⟨Az_, nz_, cz_, hform⟩ := HU.out.form; subst hform; refine (made_c _ _ (x.natAbs - y.natAbs) _ HU.out).mono ?_; rintro e w' ⟨rfl, hbz⟩; have HV := Lib.hid (HU.out.below hbz); clear HU)
        | (go_split_ands; obtain ⟨zu0, hzu0⟩ := Option.isSome_iff_exists.1 (show (World.cell? _ ⟨w.heap.size + 1 + 1, 0, none⟩).isSome = true by assumption); obtain ⟨zu1, hzu1⟩ := Option.isSome_iff_exists.1 (show (World.cell? _ ⟨w.heap.size + 1 + 1, 1, none⟩).isSome = true by assumption); go_simp))
    go_wp2
    go_split_ands
    refine bodyPost_ret (v := .agg #[.bool (bx && decide (0 < x.natAbs - y.natAbs)), .slice Az_ nz_ cz_]) (by simp [results, Tryz.results142, go_sem, hzu0, hzu1]) rfl ?_
    obtain ⟨h1, h2, h3⟩ := HBX.out
    refine whPN_mk ?_ ?_ (HF.out.mono (by omega)) (Bel.to (by assumption))
    · exact (add_sign_ge h1 h2 h3 HLE.out).2
    · rw [← (add_sign_ge h1 h2 h3 HLE.out).1]; exact Dg.set (Dg.set HV.out HF.out (by simp) _) HF.out (by simp) _
  · have hs0 : ¬ 0 ≤ s := by rw [← hs, sgn_lt (by omega)]; decide
    have HLE := Lib.hid (Nat.le_of_lt (Nat.lt_of_not_le hle))
    have HNL := Lib.hid hle
    clear hs hle
    go_enter Tryz.func142, Tryz.ntmps142
    go_wp2_with fail
    obtain ⟨W, hW, k0, k1, k2, f0, f1, f2, hbel, hsz⟩ := boxes3 w #[.bool bx, p] #[.bool by_, q] #[.bool false, .slice none 0 0] 136 136 136; rw [hW]; have c00 := k0 0; have c01 := k0 1; have c10 := k1 0; have c11 := k1 1; have c20 := k2 0; have c21 := k2 1; have f20 := f2 0; have f21 := f2 1; simp at c00 c01 c10 c11 c20 c21; have s20 : (W.cell? ⟨w.heap.size + 1 + 1, 0, none⟩).isSome = true := by rw [c20]; rfl
    have s21 : (W.cell? ⟨w.heap.size + 1 + 1, 1, none⟩).isSome = true := by rw [c21]; rfl
    clear k0 k1 k2 f0 f1 f2 hsz hW
    go_wp2_with (go_at_call 191; refine (compare_c p q x.natAbs y.natAbs _ (HP.out.below hbel.to) (HQ.out.below hbel.to)).mono ?_; rintro e W2 ⟨he, hbz⟩; rw [HSG.out] at he; subst he; have c00 := keep_cell hbz c00; have c01 := keep_cell hbz c01; have c10 := keep_cell hbz c10; have c11 := keep_cell hbz c11; have f20 := keep_free' hbz c20 f20; have f21 := keep_free' hbz c21 f21; have s20 := keep_some hbz s20; have s21 := keep_some hbz s21; have hbel := hbel.call hbz; clear c20 c21 hbz)
    go_region_held3 (fun w' => w'.cell? ⟨w.heap.size, 0, none⟩ = some (.bool bx) ∧ w'.cell? ⟨w.heap.size, 1, none⟩ = some p ∧ w'.cell? ⟨w.heap.size + 1, 0, none⟩ = some (.bool by_) ∧ w'.cell? ⟨w.heap.size + 1, 1, none⟩ = some q ∧ (w'.cell? ⟨w.heap.size + 1 + 1, 0, none⟩).isSome = true ∧ (w'.cell? ⟨w.heap.size + 1 + 1, 1, none⟩).isSome = true ∧ w'.frozen? ⟨w.heap.size + 1 + 1, 0, none⟩ = false ∧ w'.frozen? ⟨w.heap.size + 1 + 1, 1, none⟩ = false ∧ Bel w.heap.size w w')
      ((go_split_ands; refine ⟨?_, ?_, ?_, ?_, ?_, ?_, ?_, ?_, ?_⟩ <;> (first | assumption | exact keep_cell hbz (by assumption) | exact keep_some hbz (by assumption) | exact keep_free hbz (by assumption) (by assumption) | exact keep_free' hbz (by assumption) (by assumption) | exact Bel.call (by assumption) hbz | exact Bel.drew (by assumption) | ((repeat (first | assumption | (refine Bel.set ?_ _ (by first | (simp; done) | (simp; omega))) | refine Bel.drew ?_)); done) | exact some_set (by assumption) | exact some_set (some_set (by assumption)) | (refine set_far _ (by first | (simp; done) | (simp; omega)) (set_far _ (by first | (simp; done) | (simp; omega)) (by assumption))) | (refine set_far _ (by first | (simp; done) | (simp; omega)) (by assumption)) | (simp only [World.frozen?_setCell]; assumption) | (simp [*]; done))))
      (first
        | (go_at_call 192; refine (minus_c q p y.natAbs x.natAbs _ ?_ ?_ hn HLE.out).mono ?_; (go_split_ands; exact HQ.out.below (Bel.to (by assumption))); (go_split_ands; exact HP.out.below (Bel.to (by assumption))); rintro e w' ⟨u, rfl, hu, hfu, hbz⟩; go_must (have HF := Lib.hid (hfu.mono (Nat.succ_le_of_lt (lt_of_some (a := ⟨w.heap.size + 1 + 1, 0, none⟩) (by go_split_ands; assumption)))); have HU := Lib.hid hu; clear hu hfu))
        | (go_at_call 189; obtain ⟨Az_, nz_, cz_, hform⟩ := HU.out.form; subst hform; refine (made_c _ _ (y.natAbs - x.natAbs) _ HU.out).mono ?_; rintro e w' ⟨rfl, hbz⟩; have HV := Lib.hid (HU.out.below hbz); clear HU)
        | (go_split_ands; obtain ⟨zu0, hzu0⟩ := Option.isSome_iff_exists.1 (show (World.cell? _ ⟨w.heap.size + 1 + 1, 0, none⟩).isSome = true by assumption); obtain ⟨zu1, hzu1⟩ := Option.isSome_iff_exists.1 (show (World.cell? _ ⟨w.heap.size + 1 + 1, 1, none⟩).isSome = true by assumption); go_simp))
    go_wp2
    go_split_ands
    refine bodyPost_ret (v := .agg #[.bool (by_ && decide (0 < y.natAbs - x.natAbs)), .slice Az_ nz_ cz_]) (by simp [results, Tryz.results142, go_sem, hzu0, hzu1]) rfl ?_
    obtain ⟨h1, h2, h3⟩ := HBX.out
    refine whPN_mk ?_ ?_ (HF.out.mono (by omega)) (Bel.to (by assumption))
    · exact (add_sign_lt h1 h2 h3 HNL.out).2
    · rw [← (add_sign_lt h1 h2 h3 HNL.out).1]; exact Dg.set (Dg.set HV.out HF.out (by simp) _) HF.out (by simp) _

theorem add_c (v1 v2 : Value) (x y : Int) (w : World) (h1 : Wh w v1 x) (h2 : Wh w v2 y) (hm : (dg 1000000000 x.natAbs).length ≤ 1000000) (hn : (dg 1000000000 y.natAbs).length ≤ 1000000) :
    Calls Tryz.prog 142 #[v1, v2] w (WhPN (x + y) w) := by
  by_cases h : decide (x < 0) = decide (y < 0)
  · exact add_same v1 v2 x y w h1 h2 hm hn h
  · exact add_diff v1 v2 x y w h1 h2 hm hn h

end Go.Proofs.YtekbfommnmikbaaGreatDoor

namespace Go.Proofs.YtekbfommnmikbaaGreatDoor
set_option linter.unusedVariables false
set_option linter.unusedSimpArgs false
open Go.RowKit
attribute [local go_sem] max2_int min2_int max_two min_two

theorem neg_sign (x : Int) : (!decide (x < 0) && decide (0 < x.natAbs)) = decide (-x < 0) := by
  rcases Int.lt_trichotomy x 0 with h | h | h
  · rw [decide_eq_true h, decide_eq_false (by omega : ¬ -x < 0)]; rfl
  · subst h; rfl
  · rw [decide_eq_false (by omega : ¬ x < 0), decide_eq_true (by omega : -x < 0), decide_eq_true (by omega : 0 < x.natAbs)]; rfl

set_option maxHeartbeats 2000000 in
theorem negN_c (k : Nat) (v1 : Value) (x : Int) (w : World) (h1 : WhN k w v1 x) : Calls Tryz.prog 143 #[v1] w fun e w' => ∃ v, e = .returned v ∧ WhN k w' v (-x) ∧ Below w.heap.size w w' := by
  obtain ⟨p, rfl, hp, hk⟩ := h1
  have HKB := Lib.hid hk
  clear hk
  have HP := Lib.hid hp
  obtain ⟨A, n, c, rfl⟩ := hp.form
  clear hp
  generalize hbx : decide (x < 0) = bx at *
  have HBX := Lib.hid hbx
  clear hbx
  go_enter Tryz.func143, Tryz.ntmps143
  go_wp2_with fail
  obtain ⟨W, hW, k0, k1, f0, f1, hbel, hsz⟩ := boxes2 w #[.bool bx, .slice A n c] #[.bool false, .slice none 0 0] 136 136
  rw [hW]
  have c00 := k0 0; have c01 := k0 1; have c10 := k1 0; have c11 := k1 1; have f10 := f1 0; have f11 := f1 1
  simp at c00 c01 c10 c11
  clear k0 k1 f0 f1 hW
  go_wp2_with (go_at_call 189; refine (made_c _ _ x.natAbs _ (HP.out.below hbel.to)).mono ?_; rintro e W2 ⟨rfl, hbz⟩; have d10 := keep_cell hbz c10; have d11 := keep_cell hbz c11; have g10 := keep_free' hbz c10 f10; have g11 := keep_free' hbz c11 f11; have HB := Lib.hid (hbel.call hbz); clear hbz)
  refine bodyPost_ret (v := .agg #[.bool (!bx && decide (0 < x.natAbs)), .slice A n c]) (by simp [results, Tryz.results143, go_sem, d10, d11]) rfl ?_
  have hB : ∀ b v, Below w.heap.size w ((W2.setCell ⟨w.heap.size + 1, 0, none⟩ b).setCell ⟨w.heap.size + 1, 1, none⟩ v) := fun b v => ((HB.out.set (a := ⟨w.heap.size + 1, 0, none⟩) b (by simp)).set (a := ⟨w.heap.size + 1, 1, none⟩) v (by simp)).to
  exact ⟨_, rfl, ⟨_, by rw [show (!bx && decide (0 < x.natAbs)) = decide (-x < 0) from by rw [← HBX.out]; exact neg_sign x], by rw [Int.natAbs_neg]; exact HP.out.below (hB _ _), HKB.out⟩, hB _ _⟩

theorem Wh.zero {w : World} {v : Value} {z : Int} (h : Wh w v z) : WhN 0 w v z := by
  obtain ⟨p, e, hp⟩ := h
  exact ⟨p, e, hp, fun _ _ => Nat.zero_le _⟩
theorem negative_c (v1 : Value) (x : Int) (w : World) (h1 : Wh w v1 x) : Calls Tryz.prog 143 #[v1] w (WhP (-x) w) := by
  refine (negN_c 0 v1 x w h1.zero).mono ?_
  rintro e w' ⟨v, rfl, h, hb⟩
  exact ⟨v, rfl, h.wh, hb⟩

set_option maxHeartbeats 2000000 in
theorem signum_c (v1 : Value) (x : Int) (w : World) (h1 : Wh w v1 x) (hl : (dg 1000000000 x.natAbs).length ≤ 1000000) : Calls Tryz.prog 144 #[v1] w fun e w' => e = .returned (.int .i64 (sgn x)) ∧ Below w.heap.size w w' := by
  obtain ⟨p, rfl, hp⟩ := h1
  have hz : (dg 1000000000 x.natAbs).length = 0 ↔ x = 0 := by rw [List.length_eq_zero_iff, dg_eq_nil (by decide)]; omega
  obtain ⟨A, c, rfl, hlc, hcm, hr⟩ := hp
  clear hr
  by_cases h : x < 0
  · have hd : decide (x < 0) = true := by simp [h]
    rw [hd]
    go_enter Tryz.func144, Tryz.ntmps144
    go_wp2_with fail
    go_ret
    exact ⟨by rw [sgn_lt h]; rfl, (by repeat (first | exact Below.refl _ _ | exact HB.out | (refine Below.alloc ?_ (by first | (simp; done) | (simp; omega)) _) | (refine Below.setCell ?_ (by first | (simp; done) | (simp; omega)) _) | refine Below.drew ?_ | refine below_drewN ?_ _))⟩
  · have hd : decide (x < 0) = false := by simp [h]
    rw [hd]
    have HZ := Lib.hid hz
    generalize (dg 1000000000 x.natAbs).length = L at *
    clear hz hd
    go_enter Tryz.func144, Tryz.ntmps144
    go_wp2_with (go_at_call 193; refine (sign_c _ _).mono ?_; rintro e w' ⟨rfl, rfl⟩)
    go_ret
    refine ⟨?_, (by repeat (first | exact Below.refl _ _ | exact HB.out | (refine Below.alloc ?_ (by first | (simp; done) | (simp; omega)) _) | (refine Below.setCell ?_ (by first | (simp; done) | (simp; omega)) _) | refine Below.drew ?_ | refine below_drewN ?_ _))⟩
    rcases Nat.eq_zero_or_pos L with h0 | h0
    · rw [HZ.out.1 h0, h0]; rfl
    · have : x ≠ 0 := fun e => by have := HZ.out.2 e; omega
      rw [sgn_gt (by omega), sgn_gt (by omega)]; rfl

/-- What a failure's panic carries. -/
def failChain (k : Int) : List PanicEntry := [{ v := .iface 198 (.agg #[.int .i64 k]), recovered := false }]

theorem nDigits_le {u k : Nat} (hk : 0 < k) : Lib.nDigits u ≤ k ↔ u < 10 ^ k := by
  constructor
  · intro h
    exact Nat.lt_of_lt_of_le (Lib.lt_pow_nDigits u) (Nat.pow_le_pow_right (by decide) h)
  · intro h
    rcases Nat.lt_or_ge k (Lib.nDigits u) with h' | h'
    · exfalso
      have key : ∀ k u, k < Lib.nDigits u → 0 < k → 10 ^ k ≤ u := by
        intro k
        induction k with
        | zero => intro u _ h; omega
        | succ k ih =>
          intro u h _
          by_cases hu : u < 10
          · rw [Lib.nDigits_small hu] at h; omega
          · rw [Lib.nDigits_big hu] at h
            rcases Nat.eq_zero_or_pos k with rfl | hk
            · simpa using (by omega : 10 ≤ u)
            · have := ih (u / 10) (by omega) hk
              rw [Nat.pow_succ]; omega
      have := key k u h' hk
      omega
    · exact h'

/-- How text ends. -/
def textEnd (x : Int) : Ending := if x.natAbs < 10 ^ 200 then .returned (.string ⟨(Lib.itoa x).toArray⟩) else .panicked (failChain 3)

set_option maxHeartbeats 2000000 in
theorem text_c (v1 : Value) (x : Int) (w : World) (h1 : Wh w v1 x) (ht : Tabs w) (hl : (dg 1000000000 x.natAbs).length ≤ 1000000) : Calls Tryz.prog 149 #[v1] w fun e w' => e = textEnd x ∧ Below w.heap.size w w' := by
  obtain ⟨p, rfl, hp⟩ := h1
  have HP := Lib.hid hp
  obtain ⟨A, n, c, rfl⟩ := hp.form
  have HT := Lib.hid ht
  clear hp ht
  obtain ⟨S, hS⟩ : ∃ S : ByteArray, ⟨(Lib.decDigits x.natAbs).toArray⟩ = S := ⟨_, rfl⟩
  have hss : S.size = (Lib.decDigits x.natAbs).length := by rw [← hS]; simp [ByteArray.size]
  have HSS := Lib.hid hS
  have HL := Lib.hid hl
  have hbig : x.natAbs < 10 ^ 200 ↔ ¬ 200 < S.size := by rw [hss, Lib.decDigits_length, Nat.not_lt]; exact (nDigits_le (by decide)).symm
  unfold textEnd
  clear hss hl
  by_cases h2 : 200 < S.size
  · rw [if_neg (fun h => hbig.1 h h2)]
    generalize hbx : decide (x < 0) = bx at *
    have HBX := Lib.hid hbx
    clear hbx hbig hS
    go_enter Tryz.func149, Tryz.ntmps149
    go_wp2_with fail
    obtain ⟨W, hW, k0, f0, hbel, hsz⟩ := boxes1 w #[.bool bx, .slice A n c] 136
    rw [hW]
    have c00 := k0 0; have c01 := k0 1
    simp at c00 c01
    clear k0 f0 hW
    go_wp2_with (go_at_call 196; refine (string_c _ x.natAbs _ (HP.out.below hbel.to) (HT.out.below hbel.to) HL.out).mono ?_; rintro e W2 ⟨rfl, hbz⟩; rw [HSS.out]; have d00 := keep_cell hbz c00; have HB := Lib.hid (hbel.call hbz); clear hbz)
    exact ⟨rfl, rfl, HB.out.to⟩
  · rw [if_pos (hbig.2 h2)]
    have HEQ : Hid ((⟨(Lib.itoa x).toArray⟩ : ByteArray) = if x < 0 then ⟨#[45]⟩ ++ S else S) := by
      show _ = _
      rw [← hS]
      by_cases hx : x < 0
      · rw [if_pos hx]
        apply ByteArray.ext
        rw [ByteArray.data_append]
        simp [Lib.itoa, hx]
      · rw [if_neg hx]; simp only [Lib.itoa, if_neg hx]; congr 3; omega
    by_cases hx : x < 0
    · have hd : decide (x < 0) = true := by simp [hx]
      rw [hd]
      rw [if_pos hx] at HEQ
      rw [HEQ.out]
      clear hbig hS hd hx HEQ
      go_enter Tryz.func149, Tryz.ntmps149
      go_wp2_with fail
      obtain ⟨W, hW, k0, f0, hbel, hsz⟩ := boxes1 w #[.bool true, .slice A n c] 136
      rw [hW]
      have c00 := k0 0; have c01 := k0 1
      simp at c00 c01
      clear k0 f0 hW
      go_wp2_with (go_at_call 196; refine (string_c _ x.natAbs _ (HP.out.below hbel.to) (HT.out.below hbel.to) HL.out).mono ?_; rintro e W2 ⟨rfl, hbz⟩; rw [HSS.out]; have d00 := keep_cell hbz c00; have HB := Lib.hid (hbel.call hbz); clear hbz)
      go_ret
      exact ⟨rfl, HB.out.to⟩
    · have hd : decide (x < 0) = false := by simp [hx]
      rw [hd]
      rw [if_neg hx] at HEQ
      rw [HEQ.out]
      clear hbig hS hd hx HEQ
      go_enter Tryz.func149, Tryz.ntmps149
      go_wp2_with fail
      obtain ⟨W, hW, k0, f0, hbel, hsz⟩ := boxes1 w #[.bool false, .slice A n c] 136
      rw [hW]
      have c00 := k0 0; have c01 := k0 1
      simp at c00 c01
      clear k0 f0 hW
      go_wp2_with (go_at_call 196; refine (string_c _ x.natAbs _ (HP.out.below hbel.to) (HT.out.below hbel.to) HL.out).mono ?_; rintro e W2 ⟨rfl, hbz⟩; rw [HSS.out]; have d00 := keep_cell hbz c00; have HB := Lib.hid (hbel.call hbz); clear hbz)
      go_ret
      exact ⟨rfl, HB.out.to⟩

end Go.Proofs.YtekbfommnmikbaaGreatDoor

