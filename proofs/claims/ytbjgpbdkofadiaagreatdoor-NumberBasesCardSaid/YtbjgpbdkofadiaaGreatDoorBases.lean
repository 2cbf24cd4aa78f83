/- The law NumberBases. -/
import Derived.Test.YtbjgpbdkofadiaaGreatDoorRefW
import Derived.Deep.DrawnRows
namespace Go.Proofs.YtbjgpbdkofadiaaGreatDoor
set_option linter.unusedVariables false
set_option linter.unusedSimpArgs false
open Go.RowKit Go.Shelf Go.Proofs
attribute [local go_sem ↓] Go.wp_at_zero Go.wp_at_succ

theorem tobase_text (S : ByteArray) (b : Nat) (w : World) (ht : Tabs w) (hb : 2 ≤ b) (hb2 : b ≤ 36) (hn : ¬ ∃ x, NumL S.data.toList x) : Calls Tryz.prog 36 #[.string S, .int .i64 (b : Int)] w fun e w' => e = .returned (.tuple #[.string ⟨#[]⟩, .int .i64 1]) ∧ Below w.heap.size w w' :=
  (numToBase_c S b hb hb2 w ht).mono fun _ _ h => un_bad h hn
theorem fromB_len {b : Nat} (hb2 : b ≤ 36) {l : List UInt8} (hf : formB b l) (hl : l.length ≤ 700) : (dg 10 (fromB b l).natAbs).length ≤ 1000000 := by
  have h1 := bval_len hb2 hf.2.2
  have h2 := trim_len l
  have h3 : (fromB b l).natAbs = bval b (Lib.trimPrefix l [45]) := by unfold fromB; split <;> omega
  rw [h3]; omega

set_option maxRecDepth 100000 in
set_option maxHeartbeats 4000000 in
theorem bases_long (hsan : San) (a s : ByteArray) (base : Int) (w : World) (ht : Tabs w) (h : 300 < a.size ∨ 700 < s.size) :
    Calls Tryz.prog 6 #[.string a, .string s, .int .i64 base] w fun e w' => e = .returned (.bool true) ∧ Below w.heap.size w w' := by
  have HT := Lib.hid ht
  have HB : Hid (Below w.heap.size w w) := Below.refl _ _
  have HS : Hid (∀ w : World, Tabs w → Calls Tryz.prog 18 #[] w fun e w' => e = .returned (.bool true) ∧ Below w.heap.size w w') := hsan
  clear hsan ht
  obtain ⟨sa, ha⟩ : ∃ x, SB3 x a := ⟨_, rfl⟩
  have SA := Lib.hid ha
  cases sa
  · clear ha h
    go_enter Tryz.func6, Tryz.ntmps6
    go_wp2_with (first
    | (go_at_call 17; (with_reducible refine (short_at a _ _ SA.out).mono ?_); rintro e W ⟨rfl, rfl⟩)
    | (go_at_call 18; (with_reducible refine (HS.out _ (HT.out.below HB.out)).mono ?_); rintro e W ⟨rfl, hbz⟩; have HB := Lib.hid (below_then' HB.out hbz); clear hbz))
    go_ret
    exact ⟨rfl, HB.out⟩
  · have h7 : (700 : Int) < (s.size : Int) := by
      have h3 : a.size ≤ 300 := by simpa [SB3] using ha
      omega
    have h8 : decide ((700 : Int) < (s.size : Int)) = true := decide_eq_true h7
    clear ha h
    go_enter Tryz.func6, Tryz.ntmps6
    go_wp2_with (first
    | (go_at_call 17; (with_reducible refine (short_at a _ _ SA.out).mono ?_); rintro e W ⟨rfl, rfl⟩)
    | (go_at_call 18; (with_reducible refine (HS.out _ (HT.out.below HB.out)).mono ?_); rintro e W ⟨rfl, hbz⟩; have HB := Lib.hid (below_then' HB.out hbz); clear hbz))
    go_ret
    exact ⟨rfl, HB.out⟩

set_option maxRecDepth 100000 in
set_option maxHeartbeats 4000000 in
theorem bases_range (hsan : San) (a s : ByteArray) (base : Int) (w : World) (ht : Tabs w) (ha : SB3 true a) (hs : s.size ≤ 700) (hb : base < 2 ∨ 36 < base) :
    Calls Tryz.prog 6 #[.string a, .string s, .int .i64 base] w fun e w' => e = .returned (.bool true) ∧ Below w.heap.size w w' := by
  have HT := Lib.hid ht
  have HB : Hid (Below w.heap.size w w) := Below.refl _ _
  have HS : Hid (∀ w : World, Tabs w → Calls Tryz.prog 18 #[] w fun e w' => e = .returned (.bool true) ∧ Below w.heap.size w w') := hsan
  have SA := Lib.hid ha; have HBR := Lib.hid hb
  have h7 : ¬ (700 : Int) < (s.size : Int) := by omega
  have h8 : decide ((700 : Int) < (s.size : Int)) = false := decide_eq_false h7
  by_cases h2 : base < 2
  · have h3 : decide (base < 2) = true := decide_eq_true h2
    clear hsan ht ha hb
    go_enter Tryz.func6, Tryz.ntmps6
    go_wp2_with (first
    | (go_at_call 17; (with_reducible refine (short_at a _ _ SA.out).mono ?_); rintro e W ⟨rfl, rfl⟩)
    | (go_at_call 36; (with_reducible refine (numToBase_bad a base HBR.out _).mono ?_); rintro e W ⟨rfl, hbz⟩; have HB := Lib.hid (below_then' HB.out hbz); clear hbz)
    | (go_at_call 37; (with_reducible refine (fb_range s base _ HBR.out).mono ?_); rintro e W ⟨rfl, hbz⟩; have HB := Lib.hid (below_then' HB.out hbz); clear hbz)
    | (go_at_call 18; (with_reducible refine (HS.out _ (HT.out.below HB.out)).mono ?_); rintro e W ⟨rfl, hbz⟩; have HB := Lib.hid (below_then' HB.out hbz); clear hbz)
    | (go_at_call 22; (with_reducible refine (refused_c 1 _).mono ?_); rintro e W ⟨rfl, rfl⟩))
    go_ret
    exact ⟨rfl, HB.out⟩
  · have h3 : decide (base < 2) = false := decide_eq_false h2
    have h4 : 36 < base := by omega
    have h5 : decide (36 < base) = true := decide_eq_true h4
    clear hsan ht ha hb
    go_enter Tryz.func6, Tryz.ntmps6
    go_wp2_with (first
    | (go_at_call 17; (with_reducible refine (short_at a _ _ SA.out).mono ?_); rintro e W ⟨rfl, rfl⟩)
    | (go_at_call 36; (with_reducible refine (numToBase_bad a base HBR.out _).mono ?_); rintro e W ⟨rfl, hbz⟩; have HB := Lib.hid (below_then' HB.out hbz); clear hbz)
    | (go_at_call 37; (with_reducible refine (fb_range s base _ HBR.out).mono ?_); rintro e W ⟨rfl, hbz⟩; have HB := Lib.hid (below_then' HB.out hbz); clear hbz)
    | (go_at_call 18; (with_reducible refine (HS.out _ (HT.out.below HB.out)).mono ?_); rintro e W ⟨rfl, hbz⟩; have HB := Lib.hid (below_then' HB.out hbz); clear hbz)
    | (go_at_call 22; (with_reducible refine (refused_c 1 _).mono ?_); rintro e W ⟨rfl, rfl⟩))
    go_ret
    exact ⟨rfl, HB.out⟩

set_option maxRecDepth 100000 in
set_option maxHeartbeats 4000000 in
theorem bases_ok_ok (hsan : San) (a s : ByteArray) (base : Int) (w : World) (ht : Tabs w) (b : Nat) (hbase : base = (b : Int)) (hb : 2 ≤ b) (hb2 : b ≤ 36) (ha : SB3 true a) (hs : s.size ≤ 700) (x : Int) (hx : NumL a.data.toList x) (hf : formB b s.data.toList) :
    Calls Tryz.prog 6 #[.string a, .string s, .int .i64 base] w fun e w' => e = .returned (.bool true) ∧ Below w.heap.size w w' := by
  have HT := Lib.hid ht
  have HB : Hid (Below w.heap.size w w) := Below.refl _ _
  have HS : Hid (∀ w : World, Tabs w → Calls Tryz.prog 18 #[] w fun e w' => e = .returned (.bool true) ∧ Below w.heap.size w w') := hsan
  subst hbase
  have SA := Lib.hid ha; have HX := Lib.hid hx; have HF := Lib.hid hf
  have h7 : ¬ (700 : Int) < (s.size : Int) := by omega
  have h8 : decide ((700 : Int) < (s.size : Int)) = false := decide_eq_false h7
  have h3 : ¬ (b : Int) < 2 := by omega
  have h4 : decide ((b : Int) < 2) = false := decide_eq_false h3
  have h5 : ¬ 36 < (b : Int) := by omega
  have h6 : decide (36 < (b : Int)) = false := decide_eq_false h5
  have HBB := Lib.hid (And.intro hb hb2)
  have HS7 : Hid (s.size ≤ 1000) := by show _ ≤ _; omega
  have VA : Hid (VB true a) := ⟨fun _ => ⟨x, hx⟩, fun _ => rfl⟩
  obtain ⟨t, ht2⟩ : ∃ t : ByteArray, ⟨(btext b x).toArray⟩ = t := ⟨_, rfl⟩
  have HTX := Lib.hid ht2
  have HLX : Hid ((dg 10 x.natAbs).length ≤ 900000) := Nat.le_trans (len_fit hx.2) (by decide)
  clear ht2
  obtain ⟨z, hz⟩ : ∃ z, fromB b s.data.toList = z := ⟨_, rfl⟩
  have HZ := Lib.hid hz
  obtain ⟨u, hu⟩ : ∃ u, txt z = u := ⟨_, rfl⟩
  obtain ⟨k, hk⟩ : ∃ k, ern z = k := ⟨_, rfl⟩
  have HU := Lib.hid hu; have HK := Lib.hid hk
  have HLZ : Hid ((dg 10 z.natAbs).length ≤ 1000000) := by show _ ≤ _; rw [← hz]; exact fromB_len hb2 hf (by rw [Array.length_toList]; exact hs)
  clear hz hu hk
  clear hsan ht ha hx hf hb hb2
  go_enter Tryz.func6, Tryz.ntmps6
  go_upto_region 13 with (first
  | (go_at_call 17; (with_reducible refine (short_at a _ _ SA.out).mono ?_); rintro e W ⟨rfl, rfl⟩)
  | (go_at_call 36; (with_reducible refine (law_tobase a x t _ b HX.out HBB.out.1 HBB.out.2 HTX.out (HT.out.below HB.out)).mono ?_); rintro e W ⟨rfl, hbz⟩; have HB := Lib.hid (below_then' HB.out hbz); clear hbz)
  | (go_at_call 37; (with_reducible refine (law_frombase s z u k _ b HBB.out.1 HBB.out.2 HS7.out HF.out HZ.out HU.out HK.out (HT.out.below HB.out)).mono ?_); rintro e W ⟨rfl, hbz⟩; have HB := Lib.hid (below_then' HB.out hbz); clear hbz)
  | (go_at_call 21; (with_reducible refine (rvalid_at a _ _ VA.out).mono ?_); rintro e W ⟨rfl, hbz⟩; have HB := Lib.hid (below_then' HB.out hbz); clear hbz)
  | (go_at_call 23; (with_reducible refine (rof_c a x _ HX.out).mono ?_); rintro e W ⟨u1, rfl, hu1, hbz⟩; have HR := Lib.hid hu1; have HB := Lib.hid (below_then' HB.out hbz); clear hbz hu1)
  | (go_at_call 38; (with_reducible refine (rtobase_c _ x b _ HR.out HLX.out HBB.out.1 HBB.out.2).mono ?_); rintro e W ⟨he, hbz⟩; rw [HTX.out] at he; subst he; have HB := Lib.hid (below_then' HB.out hbz); clear hbz)
  | (go_at_call 39; (with_reducible refine (rfrombase_c s b _ HS7.out HBB.out.1 HBB.out.2).mono ?_); rintro e W ⟨h, hbz⟩; obtain ⟨A9, n9, c9, sg9, rfl, hri⟩ := (h.resolve_right (fun h => h.1 HF.out)).2; rw [HZ.out] at hri; have HRI := Lib.hid hri; have HB := Lib.hid (below_then' HB.out hbz); clear hbz hri h))
  obtain ⟨V, hV, k0, hb0⟩ : ∃ V, W.alloc (.cells #[.slice A9 n9 c9, .bool sg9, .int .i64 0] 55) = V ∧ V.heap[W.heap.size]? = some (.cells #[.slice A9 n9 c9, .bool sg9, .int .i64 0] 55 (0, 0)) ∧ Below W.heap.size W V := ⟨_, rfl, heap_alloc_new _ _, (Below.refl _ _).alloc (Nat.le_refl _) _⟩
  rw [hV]
  have c0 := cell_of_heap k0 0; have c1 := cell_of_heap k0 1; have c2 := cell_of_heap k0 2
  simp at c0 c1 c2
  have HBV := Lib.hid (below_then' HB.out hb0)
  have HRV := Lib.hid (HRI.out.below hb0)
  have HB2 : Hid (Below V.heap.size V V) := Below.refl _ _
  have HTV := Lib.hid (HT.out.below HBV.out)
  clear hV k0 hb0
  go_wp2_with (first
  | (go_at_call 18; (with_reducible refine (HS.out _ HTV.out).mono ?_); rintro e W9 ⟨rfl, hbz⟩; have c0 := keep_cell hbz c0; have c1 := keep_cell hbz c1; have c2 := keep_cell hbz c2; have HB2 := Lib.hid (below_then' HB2.out hbz); clear hbz)
  | (go_at_call 25; (with_reducible refine (is_c u k (.agg #[.slice A9 n9 c9, .bool sg9]) z _ (HRV.out.below HB2.out) HLZ.out HU.out HK.out).mono ?_); rintro e W9 ⟨rfl, hbz⟩; have HB2 := Lib.hid (below_then' HB2.out hbz); clear hbz))
  go_ret
  exact ⟨rfl, below_then' HBV.out HB2.out⟩

set_option maxRecDepth 100000 in
set_option maxHeartbeats 4000000 in
theorem bases_ok_no (hsan : San) (a s : ByteArray) (base : Int) (w : World) (ht : Tabs w) (b : Nat) (hbase : base = (b : Int)) (hb : 2 ≤ b) (hb2 : b ≤ 36) (ha : SB3 true a) (hs : s.size ≤ 700) (x : Int) (hx : NumL a.data.toList x) (hf : ¬ formB b s.data.toList) :
    Calls Tryz.prog 6 #[.string a, .string s, .int .i64 base] w fun e w' => e = .returned (.bool true) ∧ Below w.heap.size w w' := by
  have HT := Lib.hid ht
  have HB : Hid (Below w.heap.size w w) := Below.refl _ _
  have HS : Hid (∀ w : World, Tabs w → Calls Tryz.prog 18 #[] w fun e w' => e = .returned (.bool true) ∧ Below w.heap.size w w') := hsan
  subst hbase
  have SA := Lib.hid ha; have HX := Lib.hid hx; have HF := Lib.hid hf
  have h7 : ¬ (700 : Int) < (s.size : Int) := by omega
  have h8 : decide ((700 : Int) < (s.size : Int)) = false := decide_eq_false h7
  have h3 : ¬ (b : Int) < 2 := by omega
  have h4 : decide ((b : Int) < 2) = false := decide_eq_false h3
  have h5 : ¬ 36 < (b : Int) := by omega
  have h6 : decide (36 < (b : Int)) = false := decide_eq_false h5
  have HBB := Lib.hid (And.intro hb hb2)
  have HS7 : Hid (s.size ≤ 1000) := by show _ ≤ _; omega
  have VA : Hid (VB true a) := ⟨fun _ => ⟨x, hx⟩, fun _ => rfl⟩
  obtain ⟨t, ht2⟩ : ∃ t : ByteArray, ⟨(btext b x).toArray⟩ = t := ⟨_, rfl⟩
  have HTX := Lib.hid ht2
  have HLX : Hid ((dg 10 x.natAbs).length ≤ 900000) := Nat.le_trans (len_fit hx.2) (by decide)
  clear ht2
  clear hsan ht ha hx hf hb hb2
  go_enter Tryz.func6, Tryz.ntmps6
  go_upto_region 13 with (first
  | (go_at_call 17; (with_reducible refine (short_at a _ _ SA.out).mono ?_); rintro e W ⟨rfl, rfl⟩)
  | (go_at_call 36; (with_reducible refine (law_tobase a x t _ b HX.out HBB.out.1 HBB.out.2 HTX.out (HT.out.below HB.out)).mono ?_); rintro e W ⟨rfl, hbz⟩; have HB := Lib.hid (below_then' HB.out hbz); clear hbz)
  | (go_at_call 37; (with_reducible refine (law_frombase_form s _ b HBB.out.1 HBB.out.2 HS7.out HF.out (HT.out.below HB.out)).mono ?_); rintro e W ⟨rfl, hbz⟩; have HB := Lib.hid (below_then' HB.out hbz); clear hbz)
  | (go_at_call 21; (with_reducible refine (rvalid_at a _ _ VA.out).mono ?_); rintro e W ⟨rfl, hbz⟩; have HB := Lib.hid (below_then' HB.out hbz); clear hbz)
  | (go_at_call 23; (with_reducible refine (rof_c a x _ HX.out).mono ?_); rintro e W ⟨u1, rfl, hu1, hbz⟩; have HR := Lib.hid hu1; have HB := Lib.hid (below_then' HB.out hbz); clear hbz hu1)
  | (go_at_call 38; (with_reducible refine (rtobase_c _ x b _ HR.out HLX.out HBB.out.1 HBB.out.2).mono ?_); rintro e W ⟨he, hbz⟩; rw [HTX.out] at he; subst he; have HB := Lib.hid (below_then' HB.out hbz); clear hbz)
  | (go_at_call 39; (with_reducible refine (rfrombase_c s b _ HS7.out HBB.out.1 HBB.out.2).mono ?_); rintro e W ⟨h, hbz⟩; obtain rfl := (h.resolve_left (fun h => HF.out h.1)).2; have HB := Lib.hid (below_then' HB.out hbz); clear hbz h))
  obtain ⟨V, hV, k0, hb0⟩ : ∃ V, W.alloc (.cells #[.slice none 0 0, .bool false, .int .i64 7] 55) = V ∧ V.heap[W.heap.size]? = some (.cells #[.slice none 0 0, .bool false, .int .i64 7] 55 (0, 0)) ∧ Below W.heap.size W V := ⟨_, rfl, heap_alloc_new _ _, (Below.refl _ _).alloc (Nat.le_refl _) _⟩
  rw [hV]
  have c2 := cell_of_heap k0 2
  simp at c2
  have HBV := Lib.hid (below_then' HB.out hb0)
  have HB2 : Hid (Below V.heap.size V V) := Below.refl _ _
  have HTV := Lib.hid (HT.out.below HBV.out)
  clear hV k0 hb0
  go_wp2_with (first
  | (go_at_call 18; (with_reducible refine (HS.out _ HTV.out).mono ?_); rintro e W9 ⟨rfl, hbz⟩; have c2 := keep_cell hbz c2; have HB2 := Lib.hid (below_then' HB2.out hbz); clear hbz)
  | (go_at_call 22; (with_reducible refine (refused_c 7 _).mono ?_); rintro e W ⟨rfl, rfl⟩))
  go_ret
  exact ⟨rfl, below_then' HBV.out HB2.out⟩

set_option maxRecDepth 100000 in
set_option maxHeartbeats 4000000 in
theorem bases_no_ok (hsan : San) (a s : ByteArray) (base : Int) (w : World) (ht : Tabs w) (b : Nat) (hbase : base = (b : Int)) (hb : 2 ≤ b) (hb2 : b ≤ 36) (ha : SB3 true a) (hs : s.size ≤ 700) (hx : ¬ ∃ x, NumL a.data.toList x) (hf : formB b s.data.toList) :
    Calls Tryz.prog 6 #[.string a, .string s, .int .i64 base] w fun e w' => e = .returned (.bool true) ∧ Below w.heap.size w w' := by
  have HT := Lib.hid ht
  have HB : Hid (Below w.heap.size w w) := Below.refl _ _
  have HS : Hid (∀ w : World, Tabs w → Calls Tryz.prog 18 #[] w fun e w' => e = .returned (.bool true) ∧ Below w.heap.size w w') := hsan
  subst hbase
  have SA := Lib.hid ha; have HX := Lib.hid hx; have HF := Lib.hid hf
  have h7 : ¬ (700 : Int) < (s.size : Int) := by omega
  have h8 : decide ((700 : Int) < (s.size : Int)) = false := decide_eq_false h7
  have h3 : ¬ (b : Int) < 2 := by omega
  have h4 : decide ((b : Int) < 2) = false := decide_eq_false h3
  have h5 : ¬ 36 < (b : Int) := by omega
  have h6 : decide (36 < (b : Int)) = false := decide_eq_false h5
  have HBB := Lib.hid (And.intro hb hb2)
  have HS7 : Hid (s.size ≤ 1000) := by show _ ≤ _; omega
  have VA : Hid (VB false a) := ⟨fun h => (by cases h), fun h => absurd h hx⟩
  obtain ⟨z, hz⟩ : ∃ z, fromB b s.data.toList = z := ⟨_, rfl⟩
  have HZ := Lib.hid hz
  obtain ⟨u, hu⟩ : ∃ u, txt z = u := ⟨_, rfl⟩
  obtain ⟨k, hk⟩ : ∃ k, ern z = k := ⟨_, rfl⟩
  have HU := Lib.hid hu; have HK := Lib.hid hk
  have HLZ : Hid ((dg 10 z.natAbs).length ≤ 1000000) := by show _ ≤ _; rw [← hz]; exact fromB_len hb2 hf (by rw [Array.length_toList]; exact hs)
  clear hz hu hk
  clear hsan ht ha hx hf hb hb2
  go_enter Tryz.func6, Tryz.ntmps6
  go_upto_region 13 with (first
  | (go_at_call 17; (with_reducible refine (short_at a _ _ SA.out).mono ?_); rintro e W ⟨rfl, rfl⟩)
  | (go_at_call 36; (with_reducible refine (tobase_text a b _ (HT.out.below HB.out) HBB.out.1 HBB.out.2 HX.out).mono ?_); rintro e W ⟨rfl, hbz⟩; have HB := Lib.hid (below_then' HB.out hbz); clear hbz)
  | (go_at_call 37; (with_reducible refine (law_frombase s z u k _ b HBB.out.1 HBB.out.2 HS7.out HF.out HZ.out HU.out HK.out (HT.out.below HB.out)).mono ?_); rintro e W ⟨rfl, hbz⟩; have HB := Lib.hid (below_then' HB.out hbz); clear hbz)
  | (go_at_call 21; (with_reducible refine (rvalid_at a _ _ VA.out).mono ?_); rintro e W ⟨rfl, hbz⟩; have HB := Lib.hid (below_then' HB.out hbz); clear hbz)
  | (go_at_call 22; (with_reducible refine (refused_c 1 _).mono ?_); rintro e W ⟨rfl, rfl⟩)
  | (go_at_call 39; (with_reducible refine (rfrombase_c s b _ HS7.out HBB.out.1 HBB.out.2).mono ?_); rintro e W ⟨h, hbz⟩; obtain ⟨A9, n9, c9, sg9, rfl, hri⟩ := (h.resolve_right (fun h => h.1 HF.out)).2; rw [HZ.out] at hri; have HRI := Lib.hid hri; have HB := Lib.hid (below_then' HB.out hbz); clear hbz hri h))
  obtain ⟨V, hV, k0, hb0⟩ : ∃ V, W.alloc (.cells #[.slice A9 n9 c9, .bool sg9, .int .i64 0] 55) = V ∧ V.heap[W.heap.size]? = some (.cells #[.slice A9 n9 c9, .bool sg9, .int .i64 0] 55 (0, 0)) ∧ Below W.heap.size W V := ⟨_, rfl, heap_alloc_new _ _, (Below.refl _ _).alloc (Nat.le_refl _) _⟩
  rw [hV]
  have c0 := cell_of_heap k0 0; have c1 := cell_of_heap k0 1; have c2 := cell_of_heap k0 2
  simp at c0 c1 c2
  have HBV := Lib.hid (below_then' HB.out hb0)
  have HRV := Lib.hid (HRI.out.below hb0)
  have HB2 : Hid (Below V.heap.size V V) := Below.refl _ _
  have HTV := Lib.hid (HT.out.below HBV.out)
  clear hV k0 hb0
  go_wp2_with (first
  | (go_at_call 18; (with_reducible refine (HS.out _ HTV.out).mono ?_); rintro e W9 ⟨rfl, hbz⟩; have c0 := keep_cell hbz c0; have c1 := keep_cell hbz c1; have c2 := keep_cell hbz c2; have HB2 := Lib.hid (below_then' HB2.out hbz); clear hbz)
  | (go_at_call 25; (with_reducible refine (is_c u k (.agg #[.slice A9 n9 c9, .bool sg9]) z _ (HRV.out.below HB2.out) HLZ.out HU.out HK.out).mono ?_); rintro e W9 ⟨rfl, hbz⟩; have HB2 := Lib.hid (below_then' HB2.out hbz); clear hbz))
  go_ret
  exact ⟨rfl, below_then' HBV.out HB2.out⟩

set_option maxRecDepth 100000 in
set_option maxHeartbeats 4000000 in
theorem bases_no_no (hsan : San) (a s : ByteArray) (base : Int) (w : World) (ht : Tabs w) (b : Nat) (hbase : base = (b : Int)) (hb : 2 ≤ b) (hb2 : b ≤ 36) (ha : SB3 true a) (hs : s.size ≤ 700) (hx : ¬ ∃ x, NumL a.data.toList x) (hf : ¬ formB b s.data.toList) :
    Calls Tryz.prog 6 #[.string a, .string s, .int .i64 base] w fun e w' => e = .returned (.bool true) ∧ Below w.heap.size w w' := by
  have HT := Lib.hid ht
  have HB : Hid (Below w.heap.size w w) := Below.refl _ _
  have HS : Hid (∀ w : World, Tabs w → Calls Tryz.prog 18 #[] w fun e w' => e = .returned (.bool true) ∧ Below w.heap.size w w') := hsan
  subst hbase
  have SA := Lib.hid ha; have HX := Lib.hid hx; have HF := Lib.hid hf
  have h7 : ¬ (700 : Int) < (s.size : Int) := by omega
  have h8 : decide ((700 : Int) < (s.size : Int)) = false := decide_eq_false h7
  have h3 : ¬ (b : Int) < 2 := by omega
  have h4 : decide ((b : Int) < 2) = false := decide_eq_false h3
  have h5 : ¬ 36 < (b : Int) := by omega
  have h6 : decide (36 < (b : Int)) = false := decide_eq_false h5
  have HBB := Lib.hid (And.intro hb hb2)
  have HS7 : Hid (s.size ≤ 1000) := by show _ ≤ _; omega
  have VA : Hid (VB false a) := ⟨fun h => (by cases h), fun h => absurd h hx⟩
  clear hsan ht ha hx hf hb hb2
  go_enter Tryz.func6, Tryz.ntmps6
  go_upto_region 13 with (first
  | (go_at_call 17; (with_reducible refine (short_at a _ _ SA.out).mono ?_); rintro e W ⟨rfl, rfl⟩)
  | (go_at_call 36; (with_reducible refine (tobase_text a b _ (HT.out.below HB.out) HBB.out.1 HBB.out.2 HX.out).mono ?_); rintro e W ⟨rfl, hbz⟩; have HB := Lib.hid (below_then' HB.out hbz); clear hbz)
  | (go_at_call 37; (with_reducible refine (law_frombase_form s _ b HBB.out.1 HBB.out.2 HS7.out HF.out (HT.out.below HB.out)).mono ?_); rintro e W ⟨rfl, hbz⟩; have HB := Lib.hid (below_then' HB.out hbz); clear hbz)
  | (go_at_call 21; (with_reducible refine (rvalid_at a _ _ VA.out).mono ?_); rintro e W ⟨rfl, hbz⟩; have HB := Lib.hid (below_then' HB.out hbz); clear hbz)
  | (go_at_call 22; (with_reducible refine (refused_c 1 _).mono ?_); rintro e W ⟨rfl, rfl⟩)
  | (go_at_call 39; (with_reducible refine (rfrombase_c s b _ HS7.out HBB.out.1 HBB.out.2).mono ?_); rintro e W ⟨h, hbz⟩; obtain rfl := (h.resolve_left (fun h => HF.out h.1)).2; have HB := Lib.hid (below_then' HB.out hbz); clear hbz h))
  obtain ⟨V, hV, k0, hb0⟩ : ∃ V, W.alloc (.cells #[.slice none 0 0, .bool false, .int .i64 7] 55) = V ∧ V.heap[W.heap.size]? = some (.cells #[.slice none 0 0, .bool false, .int .i64 7] 55 (0, 0)) ∧ Below W.heap.size W V := ⟨_, rfl, heap_alloc_new _ _, (Below.refl _ _).alloc (Nat.le_refl _) _⟩
  rw [hV]
  have c2 := cell_of_heap k0 2
  simp at c2
  have HBV := Lib.hid (below_then' HB.out hb0)
  have HB2 : Hid (Below V.heap.size V V) := Below.refl _ _
  have HTV := Lib.hid (HT.out.below HBV.out)
  clear hV k0 hb0
  go_wp2_with (first
  | (go_at_call 18; (with_reducible refine (HS.out _ HTV.out).mono ?_); rintro e W9 ⟨rfl, hbz⟩; have c2 := keep_cell hbz c2; have HB2 := Lib.hid (below_then' HB2.out hbz); clear hbz)
  | (go_at_call 22; (with_reducible refine (refused_c 7 _).mono ?_); rintro e W ⟨rfl, rfl⟩))
  go_ret
  exact ⟨rfl, below_then' HBV.out HB2.out⟩

theorem numberBases_c (hsan : San) (a s : ByteArray) (base : Int) (w : World) (ht : Tabs w) : Calls Tryz.prog 6 #[.string a, .string s, .int .i64 base] w fun e w' => e = .returned (.bool true) ∧ Below w.heap.size w w' := by
  by_cases h : 300 < a.size ∨ 700 < s.size
  · exact bases_long hsan a s base w ht h
  have ha : SB3 true a := decide_eq_true (by omega)
  have hs : s.size ≤ 700 := by omega
  by_cases hb : base < 2 ∨ 36 < base
  · exact bases_range hsan a s base w ht ha hs hb
  obtain ⟨b, hbase⟩ : ∃ b : Nat, base = (b : Int) := ⟨base.toNat, by omega⟩
  by_cases hx : ∃ x, NumL a.data.toList x
  · obtain ⟨x, hx⟩ := hx
    by_cases hf : formB b s.data.toList
    · exact bases_ok_ok hsan a s base w ht b hbase (by omega) (by omega) ha hs x hx hf
    · exact bases_ok_no hsan a s base w ht b hbase (by omega) (by omega) ha hs x hx hf
  · by_cases hf : formB b s.data.toList
    · exact bases_no_ok hsan a s base w ht b hbase (by omega) (by omega) ha hs hx hf
    · exact bases_no_no hsan a s base w ht b hbase (by omega) (by omega) ha hs hx hf

end Go.Proofs.YtbjgpbdkofadiaaGreatDoor
