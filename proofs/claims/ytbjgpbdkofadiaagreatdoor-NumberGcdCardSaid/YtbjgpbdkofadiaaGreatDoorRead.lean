/- read; guard. -/
import Derived.Test.YtbjgpbdkofadiaaGreatDoorValid
import Derived.Test.YtbjgpbdkofadiaaGreatDoorWhole5
import Derived.Recover
namespace Go.Proofs.YtbjgpbdkofadiaaGreatDoor
set_option linter.unusedVariables false
set_option linter.unusedSimpArgs false
open Go.RowKit Go.Shelf Go.Proofs

theorem trim_text (z : Int) : Lib.trimPrefix (Lib.itoa z) [45] = Lib.decDigits z.natAbs ∧ Lib.hasPrefix (Lib.itoa z) [45] = decide (z < 0) := by
  by_cases hn : z < 0
  · rw [Lib.itoa, if_pos hn, trim_minus]
    exact ⟨rfl, by simp [Lib.hasPrefix, hn]⟩
  · have hh : (Lib.decDigits z.toNat).head? ≠ some 45 := fun e => by
      have := decDigits_dig z.toNat 45 (List.mem_of_mem_head? e)
      have := this.1
      simp at this
    rw [Lib.itoa, if_neg hn, trim_other hh]
    refine ⟨by rw [show z.toNat = z.natAbs by omega], ?_⟩
    rw [decide_eq_false hn]
    cases hl : Lib.decDigits z.toNat with
    | nil => exact absurd hl (decDigits_ne _)
    | cons a l =>
      rw [hl] at hh
      simp at hh
      have : ¬ 45 = a := fun e => hh e.symm
      simp [Lib.hasPrefix, List.isPrefixOf, this]

/-- How read ends. -/
def ReadP (l : List UInt8) (w : World) (e : Ending) (w' : World) : Prop :=
  (∃ z, NumL l z ∧ WhPN z w e w') ∨ ((¬ ∃ z, NumL l z) ∧ e = .panicked (failChain 1) ∧ Below w.heap.size w w')

theorem numL_len {l : List UInt8} {z : Int} (h : NumL l z) : l.length ≤ 201 := by
  have h2 := (len200 z.natAbs).2 h.2
  rw [h.1, Lib.itoa]
  split
  · simp; omega
  · rw [show z.toNat = z.natAbs by omega]; omega

set_option maxHeartbeats 1000000 in
theorem read_c (S : ByteArray) (w : World) : Calls Tryz.prog 107 #[.string S] w (ReadP S.data.toList w) := by
  by_cases hv : ∃ z, NumL S.data.toList z
  · obtain ⟨z, hz⟩ := hv
    obtain ⟨D, hD⟩ : ∃ D : ByteArray, ⟨(Lib.trimPrefix S.data.toList [45]).toArray⟩ = D := ⟨_, rfl⟩
    have hDl : D.data.toList = Lib.decDigits z.natAbs := by rw [← hD, hz.1]; exact (trim_text z).1
    have hpre : Lib.hasPrefix S.data.toList [45] = decide (z < 0) := by rw [hz.1]; exact (trim_text z).2
    have hdg : ∀ b ∈ D.data.toList, isDig b := by rw [hDl]; exact decDigits_dig _
    have hdl : D.data.toList.length ≤ 1000000 := by rw [hDl]; have := (len200 z.natAbs).2 hz.2; omega
    have hdv : decVal D.data.toList = z.natAbs := by rw [hDl, decVal_decDigits]
    have HD := Lib.hid hD
    have HPRE := Lib.hid hpre
    have HDG := Lib.hid hdg
    have HDL := Lib.hid hdl
    have HDV := Lib.hid hdv
    have HZ := Lib.hid hz
    have hsg : (decide (z < 0) && decide (0 < z.natAbs)) = decide (z < 0) := by
      by_cases h : z < 0
      · rw [decide_eq_true h, decide_eq_true (by omega : 0 < z.natAbs)]; rfl
      · rw [decide_eq_false h]; rfl
    have HSG := Lib.hid hsg
    generalize hbz' : decide (z < 0) = bz at *
    clear hD hDl hpre hdg hdl hdv hz hsg
    go_enter Tryz.func107, Tryz.ntmps107
    go_wp2_with fail
    obtain ⟨W, hW, k0, f0, hbel, hsz⟩ := boxes1 w #[.bool false, .slice none 0 0] 72
    rw [hW]
    have c00 := k0 0; have c01 := k0 1; have f00 := f0 0; have f01 := f0 1
    simp at c00 c01
    clear k0 f0 hW
    go_wp2_with (first | (go_at_call 52; refine (valid_c S _).mono ?_; rintro e W2 ⟨⟨b, rfl, hb⟩, hbz⟩; have hbt : b = true := hb.2 ⟨z, HZ.out⟩; subst hbt; have f00 := keep_free' hbz c00 f00; have f01 := keep_free' hbz c01 f01; have c00 := keep_cell hbz c00; have c01 := keep_cell hbz c01; have HB := Lib.hid (hbel.call hbz); clear hb hbz) | (go_at_call 85; refine (Tryz.strings_CutPrefix S _ _).mono ?_; rintro e W3 ⟨rfl, rfl⟩; rw [show (ByteArray.mk #[45]).data.toList = [45] from rfl, HD.out, HPRE.out]) | (go_at_call 72; refine (decimal_c D _ HDG.out HDL.out).mono ?_; rintro e W4 ⟨u, rfl, hu, hfu, hbz⟩; rw [HDV.out] at hu; obtain ⟨A6, n6, c6, rfl⟩ := hu.form; have HU := Lib.hid hu; have HFU := Lib.hid (hfu.mono (Nat.succ_le_of_lt (World.block_lt_of_cell? _ _ c00))); have HB4 := Lib.hid (HB.out.call hbz); have f00 := keep_free' hbz c00 f00; have f01 := keep_free' hbz c01 f01; have c00 := keep_cell hbz c00; have c01 := keep_cell hbz c01; clear hu hfu hbz) | (go_at_call 60; refine (made_c _ _ z.natAbs _ HU.out).mono ?_; rintro e W5 ⟨rfl, hbz⟩; have HB5 := Lib.hid (HB4.out.call hbz); have HU5 := Lib.hid (HU.out.below hbz); have f00 := keep_free' hbz c00 f00; have f01 := keep_free' hbz c01 f01; have c00 := keep_cell hbz c00; have c01 := keep_cell hbz c01; clear hbz))
    refine bodyPost_ret (v := .agg #[.bool (bz && !decide (z = 0)), .slice A6 n6 c6]) (by simp [results, Tryz.results107, go_sem, c00, c01]) rfl ?_
    refine .inl ⟨z, HZ.out, whPN_mk ?_ ?_ (HFU.out.mono (by omega)) ?_⟩
    · rw [← hbz']
      by_cases h : z < 0
      · rw [decide_eq_true h, decide_eq_false (by omega : ¬ z = 0)]; rfl
      · rw [decide_eq_false h]; rfl
    · exact Dg.set (k := w.heap.size + 1) (Dg.set (k := w.heap.size + 1) HU5.out HFU.out (by simp) _) HFU.out (by simp) _
    · exact ((HB5.out.set (a := ⟨w.heap.size, 0, none⟩) _ (by simp)).set (a := ⟨w.heap.size, 1, none⟩) _ (by simp)).to
  · have HV := Lib.hid hv
    clear hv
    go_enter Tryz.func107, Tryz.ntmps107
    go_wp2_with (go_at_call 52; refine (valid_c S _).mono ?_; rintro e W2 ⟨⟨b, rfl, hb⟩, hbz⟩; have hbf : b = false := (by cases b; rfl; exact absurd (hb.1 rfl) HV.out); subst hbf; have HB := Lib.hid (Below.trans ((Below.refl w.heap.size w).alloc (Nat.le_refl _) _) (hbz.mono (by simp))); clear hb hbz)
    exact ⟨rfl, .inr ⟨HV.out, rfl, HB.out⟩⟩

/-- guard, where nothing has panicked. -/
theorem guard_idle (p : Addr) (w : World) :
    CallsD Tryz.prog 87 #[.pointer (some p)] .returning w fun e u' w' => e = .returned (.tuple #[]) ∧ u' = .returning ∧ w' = w := by
  refine callsD_of_wpS Tryz.func87 rfl fun c₀ cs hu => ?_
  apply wpS_seq
  apply wpS_region
  simp [wpOpsS, go_sem, recoverD, hu, Tryz.ntmps87, Exit.thenS]
  refine wpS_of_wp ?_
  simp only [Array.replicate_succ, Array.replicate_zero, List.push_toArray, List.append_toArray, List.nil_append, List.cons_append, List.setIfInBounds_toArray, List.set_cons_zero, List.set_cons_succ]
  go_wp2
  cases c₀
  simp_all [bodyPostS, results, Tryz.results87]

set_option maxRecDepth 100000 in
set_option maxHeartbeats 1000000 in
theorem guard_panic (p : Addr) (k : Int) (u : Value) (w : World) (hc : w.cell? p = some u) (hz : w.frozen? p = false) :
    CallsD Tryz.prog 87 #[.pointer (some p)] (.panicking (failChain k)) w fun e u' w' => e = .returned (.tuple #[]) ∧ u' = .panicking [{ v := .iface 77 (.agg #[.int .i64 k]), recovered := true }] ∧ w' = (w.alloc (.cells #[.int .i64 k] 77)).setCell p (.int .i64 k) := by
  have hta : ∀ (xT : TypeId) (w : World), (Instr.typeAssert (.iface 77 (.agg #[.int .i64 k])) xT 77 true).run Tryz.prog w = .ok (.tuple #[.agg #[.int .i64 k], .bool true]) w := fun xT w => by rfl
  have hc' : (w.alloc (.cells #[.int .i64 k] 77)).cell? p = some u := keep_cell ((Below.refl _ _).alloc (Nat.le_refl _) _) hc
  have hz' : (w.alloc (.cells #[.int .i64 k] 77)).frozen? p = false := keep_free' ((Below.refl _ _).alloc (Nat.le_refl _) _) hc hz
  unfold failChain
  refine callsD_of_wpS Tryz.func87 rfl fun c₀ cs hu => ?_
  apply wpS_seq
  apply wpS_region
  simp [wpOpsS, go_sem, recoverD, hu, Tryz.ntmps87, Exit.thenS]
  refine wpS_of_wp ?_
  have HU := Lib.hid hu
  clear hu
  simp only [Array.replicate_succ, Array.replicate_zero, List.push_toArray, List.append_toArray, List.nil_append, List.cons_append, List.setIfInBounds_toArray, List.set_cons_zero, List.set_cons_succ]
  go_wp2
  have hu := HU.out
  clear hta hc hz hc' hz' HU
  cases c₀
  simp_all [bodyPostS, results, Tryz.results87]

end Go.Proofs.YtbjgpbdkofadiaaGreatDoor
