/- Package real: Print. -/
import Derived.Test.YtekbfommnmikbaaGreatDoorRealZ
import Derived.Test.YtekbfommnmikbaaGreatDoorR3
import Derived.BigQuiet
import Derived.Lib.ItoaLen
import Derived.Deep.QuietTactic
namespace Go.Proofs.YtekbfommnmikbaaGreatDoor
set_option linter.unusedVariables false
set_option linter.unusedSimpArgs false
open Go.RowKit Go.Shelf Go.Proofs
attribute [local go_sem ↓] Go.wp_at_zero Go.wp_at_succ

/-- The table that Itoa reads. -/
def P10 (w : World) : Prop := Lib.TabIs Tryz.prog w "internal/strconv.uint64pow10" .u64 Lib.pow10Tab
theorem P10.below {w w' : World} (h : P10 w) (hb : Below w.heap.size w w') : P10 w' := var_stay h hb
theorem itoaR_c (n : Int) (w : World) (h0 : -9223372036854775808 ≤ n) (h1 : n ≤ 9223372036854775807) (ht : P10 w) : Calls Tryz.prog 99 #[.int .i64 n] w fun e w' => e = .returned (.string ⟨(Lib.itoa n).toArray⟩) ∧ Below w.heap.size w w' := by
  refine (Tryz.strconv_Itoa n h0 h1 w ht).mono ?_
  rintro e w' ⟨rfl, k, os, rfl⟩
  exact ⟨rfl, Lib.below_grow _ w (Nat.le_refl _) k os⟩

/-- The digits without the zeros at the end. -/
def digL (m : Nat) : List UInt8 := Lib.trimRightB (Lib.itoa m) 48
def orL (l o : List UInt8) : List UInt8 := if l.isEmpty then o else l
def fillL (m : Nat) (k : Int) : List UInt8 := digL m ++ Lib.repeatL [48] (max 0 (k - (digL m).length)).toNat
/-- What is printed behind the sign. -/
def bodyL (m : Nat) (k : Int) : List UInt8 :=
  if 1 ≤ k ∧ k ≤ 15 then (fillL m k).take k.toNat ++ [46] ++ orL ((fillL m k).drop k.toNat) [48]
  else if -3 ≤ k ∧ k ≤ 0 then [48, 46] ++ Lib.repeatL [48] (-k).toNat ++ digL m
  else (digL m).take 1 ++ [46] ++ orL ((digL m).drop 1) [48] ++ [101] ++ Lib.itoa (k - 1)
def printL (m e : Int) : List UInt8 := if m = 0 then [48, 46, 48] else (if m < 0 then [45] else []) ++ bodyL m.natAbs (12 + e)
def printR (m e : Int) : Value := if ¬ RV m.natAbs e then .tuple #[.string ⟨#[]⟩, .int .i64 1] else .tuple #[.string ⟨(printL m e).toArray⟩, .int .i64 0]

set_option maxHeartbeats 1000000 in
theorem or_c (s o : ByteArray) (w : World) : Calls Tryz.prog 102 #[.string s, .string o] w fun e w' => e = .returned (.string (if s.data.toList.isEmpty then o else s)) ∧ w' = w := by
  rw [← ByteArray.toList_eq]
  by_cases h : s.toList.isEmpty = true
  · rw [if_pos h]
    go_enter Tryz.func102, Tryz.ntmps102
    go_wp2_with fail
    go_ret
    exact ⟨rfl, rfl⟩
  · have h' : s.toList.isEmpty = false := Bool.eq_false_iff.2 h
    rw [if_neg h]
    clear h
    go_enter Tryz.func102, Tryz.ntmps102
    go_wp2_with fail
    go_ret
    exact ⟨rfl, rfl⟩
theorem or_q (s o : ByteArray) (w : World) (n : Nat) : Calls Tryz.prog 102 #[.string s, .string o] (w.drewN n) fun e w' => e = .returned (.string (if s.data.toList.isEmpty then o else s)) ∧ ∃ m, w' = w.drewN m := Calls.quiet_of_same (or_c s o (w.drewN n))

theorem dropWhile_nil {α : Type} {p : α → Bool} : ∀ {l : List α}, l.dropWhile p = [] ↔ ∀ x ∈ l, p x = true
  | [] => by simp
  | a :: l => by
    rw [List.dropWhile_cons]
    by_cases h : p a = true
    · rw [if_pos h, dropWhile_nil]; simp [h]
    · rw [if_neg h]; simp [h]
/-- The digits: 1 to 12 of them, the last one not 0. -/
theorem digL_len {m : Nat} (h : 0 < m) (h2 : m < 1000000000000) : 0 < (digL m).length ∧ (digL m).length ≤ 12 := by
  have e : Lib.itoa (m : Int) = Lib.decDigits m := Lib.itoa_nonneg m
  unfold digL
  rw [e]
  constructor
  · refine List.length_pos_iff.2 fun h3 => ?_
    unfold Lib.trimRightB at h3
    have h4 := List.reverse_eq_nil_iff.1 h3
    rw [dropWhile_nil] at h4
    have h5 := decDigits_head m h
    have h6 := decDigits_ne m
    cases hd : Lib.decDigits m with
    | nil => exact h6 hd
    | cons b l =>
      rw [hd] at h4 h5
      have := h4 b (by simp)
      rw [beq_iff_eq] at this
      subst this
      exact h5 rfl
  · have h3 : (Lib.trimRightB (Lib.decDigits m) 48).length ≤ (Lib.decDigits m).length := by
      unfold Lib.trimRightB
      rw [List.length_reverse]
      have := (List.dropWhile_sublist (fun x => x == (48 : UInt8)) (l := (Lib.decDigits m).reverse)).length_le
      rwa [List.length_reverse] at this
    have h4 : (Lib.decDigits m).length ≤ 12 := by rw [Lib.decDigits_length]; exact (nDigits_le (by decide)).2 h2
    omega
theorem cat2 (a b : ByteArray) {i j : Nat} (h1 : a.size = i) (h2 : b.size = j) : ∃ c, a ++ b = c ∧ c.size = i + j ∧ c.data.toList = a.data.toList ++ b.data.toList := ⟨_, rfl, by rw [ByteArray.size_append, h1, h2], by rw [ByteArray.data_append, Array.toList_append]⟩
theorem cutl (a : ByteArray) {f : Nat} (q : Nat) (h : a.size = f) (hq : q ≤ f) : ∃ c, a.extract 0 q = c ∧ c.size = q ∧ c.data.toList = a.data.toList.take q := ⟨_, rfl, by rw [ByteArray.size_extract]; omega, by rw [ext_list]; simp⟩
theorem cutr (a : ByteArray) {f : Nat} (q : Nat) (h : a.size = f) (hq : q ≤ f) : ∃ c, a.extract q f = c ∧ c.size = f - q ∧ c.data.toList = a.data.toList.drop q := ⟨_, rfl, by rw [ByteArray.size_extract]; omega, by rw [ext_list, List.take_of_length_le (by rw [← h]; exact Nat.le_refl _)]⟩
theorem orc (a : ByteArray) {f : Nat} (h : a.size = f) : ∃ c, (if a.data.toList.isEmpty then (⟨#[48]⟩ : ByteArray) else a) = c ∧ c.size ≤ f + 1 ∧ c.data.toList = orL a.data.toList [48] := by
  refine ⟨_, rfl, ?_, ?_⟩
  · split
    · show 1 ≤ f + 1; omega
    · omega
  · unfold orL
    split <;> rfl
theorem str_eq {a b : ByteArray} (h : a.data.toList = b.data.toList) : a = b := ByteArray.ext (Array.ext' h)

set_option maxRecDepth 100000 in
set_option maxHeartbeats 4000000 in
theorem printR_ab (m e : Int) (w : World) (h0 : -9223372036854775808 ≤ m) (h1 : m ≤ 9223372036854775807) (ht : P10 w) (hab : ¬ (¬ (1 ≤ 12 + e ∧ 12 + e ≤ 15) ∧ ¬ (-3 ≤ 12 + e ∧ 12 + e ≤ 0))) :
    Calls Tryz.prog 29 #[.agg #[.int .i64 m, .int .i64 e]] w fun en w' => en = .returned (printR m e) ∧ Below w.heap.size w w' := by
  obtain ⟨W, hW, k0, hbel⟩ := bx1h w #[.int .i64 m, .int .i64 e] 23
  have HBEL := Lib.hid hbel
  have HT := Lib.hid (ht.below hbel)
  have c00 := cell_of_heap k0 0; have c01 := cell_of_heap k0 1
  simp at c00 c01
  have HV := Lib.hid (fun w' => validR_c m e w' h0 h1)
  clear k0 hbel ht
  by_cases h : RV m.natAbs e
  · rw [show decide (RV m.natAbs e) = true from decide_eq_true h] at HV
    have hnn : ¬ ¬ RV m.natAbs e := fun x => x h
    have hr : printR m e = .tuple #[.string ⟨(printL m e).toArray⟩, .int .i64 0] := by unfold printR; rw [if_neg hnn]
    rw [hr]
    clear hr
    by_cases m0 : m = 0
    · subst m0
      rw [show printL 0 e = [48, 46, 48] from rfl]
      clear hnn h
      go_enter Tryz.func29, Tryz.ntmps29
      go_wp2_with (go_at_call 33; (with_reducible refine (HV.out _).mono ?_); rintro en w2 ⟨rfl, hbz⟩; have c00 := keep_cell hbz c00; have c01 := keep_cell hbz c01; have HB := Lib.hid hbz; clear hbz)
      go_ret2
      exact ⟨rfl, belowT HBEL.out HB.out⟩
    obtain ⟨x0, x1, x2⟩ := RV_abs h
    have hmp : 0 < m.natAbs := by omega
    have hdl := digL_len hmp x0
    have hmm : -9223372036854775807 ≤ m := by omega
    have HS := Lib.hid (fun w' => size_c m w' hmm h1)
    obtain ⟨M, hM⟩ : ∃ M, m.natAbs = M := ⟨_, rfl⟩
    rw [hM] at HS hdl x0 hmp
    have hit : ByteArray.size ⟨(Lib.itoa (M : Int)).toArray⟩ ≤ 9223372036854775807 := by
      have := Lib.itoa_length_le (M : Int) (by omega) (by omega)
      show (Lib.itoa (M : Int)).toArray.size ≤ _
      rw [List.size_toArray]; omega
    have HIT := Lib.hid (fun w' (ht : P10 w') => itoaR_c (M : Int) w' (by omega) (by omega) ht)
    have HTR := Lib.hid (fun w' => Tryz.strings_TrimRight_one ⟨(Lib.itoa (M : Int)).toArray⟩ 48 (by decide) w' hit)
    obtain ⟨I, hI⟩ : ∃ I : ByteArray, ⟨(Lib.itoa (M : Int)).toArray⟩ = I := ⟨_, rfl⟩
    obtain ⟨D, hD⟩ : ∃ D : ByteArray, ⟨(digL M).toArray⟩ = D := ⟨_, rfl⟩
    have hdd : D.data.toList = digL M := by rw [← hD]
    have hds : D.size = (digL M).length := by rw [← hD]; rfl
    rw [hI] at HIT HTR
    rw [show (⟨(Lib.trimRightB I.data.toList 48).toArray⟩ : ByteArray) = D from by rw [← hD, ← hI]; rfl] at HTR
    rw [← hds] at hdl
    obtain ⟨n, hn⟩ : ∃ n, D.size = n := ⟨_, rfl⟩
    rw [hn] at hdl
    obtain ⟨d1, d2⟩ := hdl
    obtain ⟨k, hk⟩ : ∃ k, 12 + e = k := ⟨_, rfl⟩
    have HAB := Lib.hid (hk ▸ hab)
    clear hab
    have hk1 : -99 ≤ k := by omega
    have hk2 : k ≤ 100 := by omega
    obtain ⟨mi, hmi⟩ : ∃ mi : ByteArray, mi = (if m < 0 then ⟨#[45]⟩ else ⟨#[]⟩) := ⟨_, rfl⟩
    have HP : Hid (printL m e = mi.data.toList ++ bodyL M k) := by
      show _ = _
      unfold printL
      rw [if_neg m0, hM, hk, hmi]
      split <;> rfl
    have m0' : (m == 0) = false := by simp [m0]
    clear hnn h hI hD hM hmm hit
    have hmi2 : (m < 0 ∧ mi = ⟨#[45]⟩) ∨ (¬ m < 0 ∧ mi = ⟨#[]⟩) := by
      by_cases hm : m < 0
      · exact .inl ⟨hm, by rw [hmi, if_pos hm]⟩
      · exact .inr ⟨hm, by rw [hmi, if_neg hm]⟩
    clear hmi
    by_cases k1 : 1 ≤ k ∧ k ≤ 15
    · have hbd : bodyL M k = (fillL M k).take k.toNat ++ [46] ++ orL ((fillL M k).drop k.toNat) [48] := by unfold bodyL; rw [if_pos k1]
      obtain ⟨ka, kb⟩ := k1
      obtain ⟨q, rfl⟩ : ∃ q : Nat, k = (q : Int) := ⟨k.toNat, by omega⟩
      obtain ⟨c, hc⟩ : ∃ c : Nat, max 0 ((q : Int) - (n : Int)) = (c : Int) := ⟨(max 0 ((q : Int) - (n : Int))).toNat, by omega⟩
      have HRP := Lib.hid (fun w' => Tryz.strings_Repeat ⟨#[48]⟩ c w' (by omega) (by show 1 * c ≤ _; omega))
      obtain ⟨Z, hZ⟩ : ∃ Z : ByteArray, ⟨(Lib.repeatL [48] c).toArray⟩ = Z := ⟨_, rfl⟩
      rw [show (⟨(Lib.repeatL (ByteArray.mk #[48]).data.toList c).toArray⟩ : ByteArray) = Z from hZ] at HRP
      obtain ⟨F, hF⟩ : ∃ F : ByteArray, D ++ Z = F := ⟨_, rfl⟩
      have hFL : F.data.toList = fillL M q := by
        rw [← hF, ByteArray.data_append, Array.toList_append, hdd, ← hZ]
        unfold fillL
        rw [← hds, hn, hc, Int.toNat_natCast]
      have hFs : F.size = n + c := by rw [← hF, ByteArray.size_append, hn, ← hZ]; show n + (Lib.repeatL [48] c).toArray.size = _; rw [List.size_toArray, Lib.repeatL_length]; simp
      have HBD := Lib.hid hbd; have HFL := Lib.hid hFL
      have hzs : Z.size = c := by rw [← hZ]; show (Lib.repeatL [48] c).toArray.size = _; rw [List.size_toArray, Lib.repeatL_length]; simp
      have hc15 : c ≤ 15 := by omega
      obtain ⟨f, hf⟩ : ∃ f, F.size = f := ⟨_, rfl⟩
      have hf15 : f ≤ 27 := by omega
      have hqf : q ≤ f := by omega
      clear hbd hFL hZ hFs hdd hds
      obtain ⟨G, hG, hGs, hGl⟩ := cutl F q hf hqf
      obtain ⟨H, hH, hHs, hHl⟩ := cutr F q hf hqf
      obtain ⟨Rr, hRr, hRs, hRl⟩ := orc H hHs
      obtain ⟨rs, hrs⟩ : ∃ rs, Rr.size = rs := ⟨_, rfl⟩
      rw [hrs] at hRs
      obtain ⟨ms, hms⟩ : ∃ ms, mi.size = ms := ⟨_, rfl⟩
      have hms1 : ms ≤ 1 := by rcases hmi2 with ⟨-, rfl⟩ | ⟨-, rfl⟩ <;> (rw [← hms]; decide)
      obtain ⟨J1, hJ1, hs1, hl1⟩ := cat2 mi G hms hGs
      obtain ⟨J2, hJ2, hs2, hl2⟩ := cat2 J1 ⟨#[46]⟩ hs1 (show ByteArray.size ⟨#[46]⟩ = 1 from rfl)
      obtain ⟨J3, hJ3, hs3, hl3⟩ := cat2 J2 Rr hs2 hrs
      have HORQ := Lib.hid (fun (w' : World) (nn : Nat) => or_q H ⟨#[48]⟩ w' nn)
      rw [hRr] at HORQ
      have HEND : Hid ((⟨(printL m e).toArray⟩ : ByteArray) = J3) := by
        show _ = _
        apply str_eq
        rw [HP.out, HBD.out, hl3, hl2, hl1, hRl, hHl, hGl, HFL.out]
        simp
      clear hl1 hl2 hl3 hRl hHl hGl hRr
      rcases hmi2 with ⟨hm, rfl⟩ | ⟨hm, rfl⟩
      all_goals
        go_enter Tryz.func29, Tryz.ntmps29
        go_upto_region 12 with (first
          | (go_at_call 33; (with_reducible refine (HV.out _).mono ?_); rintro en w2 ⟨rfl, hbz⟩; have c00 := keep_cell hbz c00; have c01 := keep_cell hbz c01; have HB := Lib.hid hbz; clear hbz)
          | (go_at_call 100; (with_reducible refine (HS.out _).mono ?_); rintro en w3 ⟨rfl, rfl⟩)
          | (go_at_call 99; (with_reducible refine (HIT.out _ (HT.out.below HB.out)).mono ?_); rintro en w4 ⟨rfl, hbz⟩; have c00 := keep_cell hbz c00; have c01 := keep_cell hbz c01; have HB := Lib.hid (belowT HB.out hbz); clear hbz)
          | (go_at_call 98; (with_reducible refine (HTR.out _).mono ?_); rintro en w5 ⟨rfl, rfl⟩)
          | (go_at_call 101; (with_reducible refine (HRP.out _).mono ?_); rintro en w6 ⟨rfl, hbz⟩; have c00 := keep_cell hbz c00; have c01 := keep_cell hbz c01; have HB := Lib.hid (belowT HB.out hbz); clear hbz))
        go_quiet ((go_at_call 102; exact HORQ.out _ _))
        go_wp2_with fail
        rw [HEND.out]
        go_ret2
        exact ⟨rfl, belowT HBEL.out (below_drewN HB.out nq)⟩
    obtain ⟨ms, hms⟩ : ∃ ms, mi.size = ms := ⟨_, rfl⟩
    have hms1 : ms ≤ 1 := by rcases hmi2 with ⟨-, rfl⟩ | ⟨-, rfl⟩ <;> (rw [← hms]; decide)
    by_cases k2 : -3 ≤ k ∧ k ≤ 0
    · have hbd : bodyL M k = [48, 46] ++ Lib.repeatL [48] (-k).toNat ++ digL M := by unfold bodyL; rw [if_neg k1, if_pos k2]
      obtain ⟨ka, kb⟩ := k2
      have kc : ¬ 1 ≤ k := by omega
      obtain ⟨c, hc⟩ : ∃ c : Nat, -k = (c : Int) := ⟨(-k).toNat, by omega⟩
      have HRP := Lib.hid (fun w' => Tryz.strings_Repeat ⟨#[48]⟩ c w' (by omega) (by show 1 * c ≤ _; omega))
      obtain ⟨Z, hZ⟩ : ∃ Z : ByteArray, ⟨(Lib.repeatL [48] c).toArray⟩ = Z := ⟨_, rfl⟩
      rw [show (⟨(Lib.repeatL (ByteArray.mk #[48]).data.toList c).toArray⟩ : ByteArray) = Z from hZ] at HRP
      have hzl : Z.data.toList = Lib.repeatL [48] c := by rw [← hZ]
      have hzs : Z.size = c := by rw [← hZ]; show (Lib.repeatL [48] c).toArray.size = _; rw [List.size_toArray, Lib.repeatL_length]; simp
      have hc15 : c ≤ 15 := by omega
      obtain ⟨J1, hJ1, hs1, hl1⟩ := cat2 mi ⟨#[48, 46]⟩ hms (show ByteArray.size ⟨#[48, 46]⟩ = 2 from rfl)
      obtain ⟨J2, hJ2, hs2, hl2⟩ := cat2 J1 Z hs1 hzs
      obtain ⟨J3, hJ3, hs3, hl3⟩ := cat2 J2 D hs2 hn
      have HEND : Hid ((⟨(printL m e).toArray⟩ : ByteArray) = J3) := by
        show _ = _
        apply str_eq
        rw [HP.out, hbd, hl3, hl2, hl1, hzl, hdd, hc]
        simp
      clear hl1 hl2 hl3 hzl hZ hdd hds hbd k1
      rcases hmi2 with ⟨hm, rfl⟩ | ⟨hm, rfl⟩
      all_goals
        go_enter Tryz.func29, Tryz.ntmps29
        go_wp2_with (first
          | (go_at_call 33; (with_reducible refine (HV.out _).mono ?_); rintro en w2 ⟨rfl, hbz⟩; have c00 := keep_cell hbz c00; have c01 := keep_cell hbz c01; have HB := Lib.hid hbz; clear hbz)
          | (go_at_call 100; (with_reducible refine (HS.out _).mono ?_); rintro en w3 ⟨rfl, rfl⟩)
          | (go_at_call 99; (with_reducible refine (HIT.out _ (HT.out.below HB.out)).mono ?_); rintro en w4 ⟨rfl, hbz⟩; have c00 := keep_cell hbz c00; have c01 := keep_cell hbz c01; have HB := Lib.hid (belowT HB.out hbz); clear hbz)
          | (go_at_call 98; (with_reducible refine (HTR.out _).mono ?_); rintro en w5 ⟨rfl, rfl⟩)
          | (go_at_call 101; (with_reducible refine (HRP.out _).mono ?_); rintro en w6 ⟨rfl, hbz⟩; have c00 := keep_cell hbz c00; have c01 := keep_cell hbz c01; have HB := Lib.hid (belowT HB.out hbz); clear hbz))
        rw [HEND.out]
        go_ret2
        exact ⟨rfl, belowT HBEL.out HB.out⟩
    · exact absurd ⟨k1, k2⟩ HAB.out
  · rw [show decide (RV m.natAbs e) = false from decide_eq_false h] at HV
    have hr : printR m e = .tuple #[.string ⟨#[]⟩, .int .i64 1] := by unfold printR; rw [if_pos h]
    rw [hr]
    clear hr h
    go_enter Tryz.func29, Tryz.ntmps29
    go_wp2_with (go_at_call 33; (with_reducible refine (HV.out _).mono ?_); rintro en w2 ⟨rfl, hbz⟩; have c00 := keep_cell hbz c00; have c01 := keep_cell hbz c01; have HB := Lib.hid hbz; clear hbz)
    go_ret2
    exact ⟨rfl, belowT HBEL.out HB.out⟩
end Go.Proofs.YtekbfommnmikbaaGreatDoor
