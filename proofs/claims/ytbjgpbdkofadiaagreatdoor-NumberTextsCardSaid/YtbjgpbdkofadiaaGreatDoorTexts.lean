/- The law NumberTexts. -/
import Derived.Test.YtbjgpbdkofadiaaGreatDoorRefR
import Derived.Test.YtbjgpbdkofadiaaGreatDoorRefP
import Derived.Deep.DrawnRows
namespace Go.Proofs.YtbjgpbdkofadiaaGreatDoor
set_option linter.unusedVariables false
set_option linter.unusedSimpArgs false
open Go.RowKit Go.Shelf Go.Proofs
attribute [local go_sem ↓] Go.wp_at_zero Go.wp_at_succ

theorem neg_bad (S : ByteArray) (w : World) (ht : Tabs w) (hn : ¬ ∃ x, NumL S.data.toList x) : Calls Tryz.prog 43 #[.string S] w fun e w' => e = .returned (.tuple #[.string ⟨#[]⟩, .int .i64 1]) ∧ Below w.heap.size w w' :=
  (neg_c S w ht).mono fun _ _ h => un_bad h hn
theorem abs_bad (S : ByteArray) (w : World) (ht : Tabs w) (hn : ¬ ∃ x, NumL S.data.toList x) : Calls Tryz.prog 49 #[.string S] w fun e w' => e = .returned (.tuple #[.string ⟨#[]⟩, .int .i64 1]) ∧ Below w.heap.size w w' :=
  (abs_c S w ht).mono fun _ _ h => un_bad h hn
theorem sign_bad (S : ByteArray) (w : World) (ht : Tabs w) (hn : ¬ ∃ x, NumL S.data.toList x) : Calls Tryz.prog 48 #[.string S] w fun e w' => e = .returned (.tuple #[.int .i64 0, .int .i64 1]) ∧ Below w.heap.size w w' :=
  (signx_c S w ht).mono fun _ _ h => un_bad h hn
theorem toint_bad (S : ByteArray) (w : World) (ht : Tabs w) (hn : ¬ ∃ x, NumL S.data.toList x) : Calls Tryz.prog 51 #[.string S] w fun e w' => e = .returned (.tuple #[.int .i64 0, .int .i64 1]) ∧ Below w.heap.size w w' :=
  (toInt_c S w ht).mono fun _ _ h => by
    obtain ⟨h, hb⟩ := h
    rcases h with ⟨x, hx, -⟩ | ⟨-, rfl⟩
    · exact absurd ⟨x, hx⟩ hn
    · exact ⟨rfl, hb⟩
theorem toint_far (S : ByteArray) (x : Int) (w : World) (ht : Tabs w) (hS : NumL S.data.toList x) (h0 : ¬ (-9223372036854775808 ≤ x ∧ x ≤ 9223372036854775807)) : Calls Tryz.prog 51 #[.string S] w fun e w' => e = .returned (.tuple #[.int .i64 0, .int .i64 3]) ∧ Below w.heap.size w w' :=
  (toInt_c S w ht).mono fun _ _ h => by
    obtain ⟨h, hb⟩ := h
    rcases h with ⟨x', hx, he⟩ | ⟨hn, -⟩
    · obtain rfl : x' = x := itoa_inj (hx.1.symm.trans hS.1)
      rw [toIntRes, if_neg h0] at he
      exact ⟨he, hb⟩
    · exact absurd ⟨x, hS⟩ hn
theorem num_lo : NumL [45, 57, 50, 50, 51, 51, 55, 50, 48, 51, 54, 56, 53, 52, 55, 55, 53, 56, 48, 56] (-9223372036854775808) := ⟨by decide +kernel, by decide⟩
theorem num_hi : NumL [57, 50, 50, 51, 51, 55, 50, 48, 51, 54, 56, 53, 52, 55, 55, 53, 56, 48, 55] 9223372036854775807 := ⟨by decide +kernel, by decide⟩

set_option maxRecDepth 100000 in
set_option maxHeartbeats 8000000 in
theorem texts_long (hsan : San) (a : ByteArray) (n : Int) (w : World) (ht : Tabs w) (hn0 : -9223372036854775808 ≤ n) (hn2 : n ≤ 9223372036854775807) (ha : SB3 false a) :
    Calls Tryz.prog 16 #[.string a, .int .i64 n] w fun e w' => e = .returned (.bool true) ∧ Below w.heap.size w w' := by
  have HT := Lib.hid ht
  have HB : Hid (Below w.heap.size w w) := Below.refl _ _
  have HS : Hid (∀ w : World, Tabs w → Calls Tryz.prog 18 #[] w fun e w' => e = .returned (.bool true) ∧ Below w.heap.size w w') := hsan
  have HI0 := Lib.hid hn0; have HI1 := Lib.hid hn2
  obtain ⟨sn, hsn⟩ : ∃ s : ByteArray, ⟨(Lib.itoa n).toArray⟩ = s := ⟨_, rfl⟩
  have HSN := Lib.hid hsn
  clear hsn hn0 hn2
  have SA := Lib.hid ha
  clear ha hsan ht
  go_enter Tryz.func16, Tryz.ntmps16
  go_wp2_with (first
  | (go_at_call 17; (with_reducible refine (short_at a _ _ SA.out).mono ?_); rintro e W ⟨rfl, rfl⟩)
  | (go_at_call 18; (with_reducible refine (HS.out _ (HT.out.below HB.out)).mono ?_); rintro e W ⟨rfl, hbz⟩; have HB := Lib.hid (below_then' HB.out hbz); clear hbz))
  go_ret
  exact ⟨rfl, HB.out⟩

set_option maxRecDepth 100000 in
set_option maxHeartbeats 8000000 in
theorem texts_bad (hsan : San) (a : ByteArray) (n : Int) (w : World) (ht : Tabs w) (hn0 : -9223372036854775808 ≤ n) (hn2 : n ≤ 9223372036854775807) (ha : SB3 true a) (h1 : VB false a) :
    Calls Tryz.prog 16 #[.string a, .int .i64 n] w fun e w' => e = .returned (.bool true) ∧ Below w.heap.size w w' := by
  have HT := Lib.hid ht
  have HB : Hid (Below w.heap.size w w) := Below.refl _ _
  have HS : Hid (∀ w : World, Tabs w → Calls Tryz.prog 18 #[] w fun e w' => e = .returned (.bool true) ∧ Below w.heap.size w w') := hsan
  have HI0 := Lib.hid hn0; have HI1 := Lib.hid hn2
  obtain ⟨sn, hsn⟩ : ∃ s : ByteArray, ⟨(Lib.itoa n).toArray⟩ = s := ⟨_, rfl⟩
  have HSN := Lib.hid hsn
  clear hsn hn0 hn2
  have SA := Lib.hid ha; have VA := Lib.hid h1
  have HNA : Hid (¬ ∃ x, NumL a.data.toList x) := fun h => by have e1 := h1.2 h; cases e1
  clear ha h1 hsan ht
  go_enter Tryz.func16, Tryz.ntmps16
  go_wp2_with (first
  | (go_at_call 17; (with_reducible refine (short_at a _ _ SA.out).mono ?_); rintro e W ⟨rfl, rfl⟩)
  | (go_at_call 21; (with_reducible refine (rvalid_at a _ _ VA.out).mono ?_); rintro e W ⟨rfl, hbz⟩; have HB := Lib.hid (below_then' HB.out hbz); clear hbz)
  | (go_at_call 51; (with_reducible refine (toint_bad a _ (HT.out.below HB.out) HNA.out).mono ?_); rintro e W ⟨rfl, hbz⟩; have HB := Lib.hid (below_then' HB.out hbz); clear hbz)
  | (go_at_call 43; (with_reducible refine (neg_bad a _ (HT.out.below HB.out) HNA.out).mono ?_); rintro e W ⟨rfl, hbz⟩; have HB := Lib.hid (below_then' HB.out hbz); clear hbz)
  | (go_at_call 49; (with_reducible refine (abs_bad a _ (HT.out.below HB.out) HNA.out).mono ?_); rintro e W ⟨rfl, hbz⟩; have HB := Lib.hid (below_then' HB.out hbz); clear hbz)
  | (go_at_call 48; (with_reducible refine (sign_bad a _ (HT.out.below HB.out) HNA.out).mono ?_); rintro e W ⟨rfl, hbz⟩; have HB := Lib.hid (below_then' HB.out hbz); clear hbz)
  | (go_at_call 52; (with_reducible refine (valid_at a _ _ VA.out).mono ?_); rintro e W ⟨rfl, hbz⟩; have HB := Lib.hid (below_then' HB.out hbz); clear hbz)
  | (go_at_call 50; (with_reducible refine (fromInt_c n HI0.out HI1.out _ (HT.out.below HB.out)).mono ?_); rintro e W ⟨he, hbz⟩; rw [HSN.out] at he; subst he; have HB := Lib.hid (below_then' HB.out hbz); clear hbz)
  | (go_at_call 53; (with_reducible refine (rfromint_c n _ HI0.out HI1.out).mono ?_); rintro e W ⟨he, hbz⟩; rw [HSN.out] at he; subst he; have HB := Lib.hid (below_then' HB.out hbz); clear hbz)
  | (go_at_call 18; (with_reducible refine (HS.out _ (HT.out.below HB.out)).mono ?_); rintro e W ⟨rfl, hbz⟩; have HB := Lib.hid (below_then' HB.out hbz); clear hbz)
  | (go_at_call 22; (with_reducible refine (refused_c 1 _).mono ?_); rintro e W ⟨rfl, rfl⟩))
  go_ret
  exact ⟨rfl, HB.out⟩

set_option maxRecDepth 100000 in
set_option maxHeartbeats 8000000 in
theorem texts_in (hsan : San) (a : ByteArray) (n : Int) (w : World) (ht : Tabs w) (hn0 : -9223372036854775808 ≤ n) (hn2 : n ≤ 9223372036854775807) (x : Int) (hr0 : -9223372036854775808 ≤ x) (hr1 : x ≤ 9223372036854775807) (ha : SB3 true a) (h1 : NumL a.data.toList x) :
    Calls Tryz.prog 16 #[.string a, .int .i64 n] w fun e w' => e = .returned (.bool true) ∧ Below w.heap.size w w' := by
  have HT := Lib.hid ht
  have HB : Hid (Below w.heap.size w w) := Below.refl _ _
  have HS : Hid (∀ w : World, Tabs w → Calls Tryz.prog 18 #[] w fun e w' => e = .returned (.bool true) ∧ Below w.heap.size w w') := hsan
  have HI0 := Lib.hid hn0; have HI1 := Lib.hid hn2
  obtain ⟨sn, hsn⟩ : ∃ s : ByteArray, ⟨(Lib.itoa n).toArray⟩ = s := ⟨_, rfl⟩
  have HSN := Lib.hid hsn
  clear hsn hn0 hn2
  have SA := Lib.hid ha; have VA : Hid (VB true a) := ⟨fun _ => ⟨x, h1⟩, fun _ => rfl⟩
  have HNA := Lib.hid h1
  have HLX := Lib.hid (len_fit h1.2)
  have HL1 : Hid ((dg 10 x.natAbs).length ≤ 1000000) := Nat.le_trans HLX.out (by decide)
  have HLB' : ∀ k : Int, k.natAbs ≤ 9223372036854775808 → (dg 10 k.natAbs).length ≤ 1000000 := fun k hk => Nat.le_trans ((dg_length_le (by decide) _ 20).2 (by omega)) (by decide)
  have HLO : Hid ((dg 10 (-9223372036854775808 : Int).natAbs).length ≤ 1000000) := HLB' _ (by decide)
  have HHI : Hid ((dg 10 (9223372036854775807 : Int).natAbs).length ≤ 1000000) := HLB' _ (by decide)
  have HM1 : Hid ((dg 10 (-1 : Int).natAbs).length ≤ 1000000) := HLB' _ (by decide)
  have HZ0 : Hid ((dg 10 (0 : Int).natAbs).length ≤ 1000000) := HLB' _ (by decide)
  clear HLB'
  have HLP : Hid ((dg 10 (x * -1).natAbs).length ≤ 1000000) := by show _ ≤ _; rw [Int.natAbs_mul]; simpa using HL1.out
  have HLA : Hid ((dg 10 (x.natAbs : Int).natAbs).length ≤ 1000000) := by show _ ≤ _; rw [Int.natAbs_natCast]; exact HL1.out
  have HAT : Hid (⟨(Lib.itoa x).toArray⟩ = a) := by show _ = a; rw [← h1.1]
  obtain ⟨g1, hg1⟩ : ∃ g, sgn (x - -9223372036854775808) = g := ⟨_, rfl⟩
  obtain ⟨g2, hg2⟩ : ∃ g, sgn (x - 9223372036854775807) = g := ⟨_, rfl⟩
  obtain ⟨g3, hg3⟩ : ∃ g, sgn x = g := ⟨_, rfl⟩
  have HG1 := Lib.hid hg1; have HG2 := Lib.hid hg2; have HG3 := Lib.hid hg3
  have HG4 : Hid (sgn (x - 0) = g3) := by show _ = _; rw [Int.sub_zero]; exact hg3
  have HXR := Lib.hid (And.intro hr0 hr1)
  have t1 : ¬ g1 < 0 := by rw [← hg1]; intro h; have := sg_lt.1 h; omega
  have t2 : ¬ 0 < g2 := by rw [← hg2]; intro h; have := sg_gt.1 h; omega
  clear ha h1 hsan ht hg1 hg2 hg3
  obtain ⟨s1, hs1⟩ : ∃ s, txt (-x) = s := ⟨_, rfl⟩
  obtain ⟨e1, he1⟩ : ∃ e, ern (-x) = e := ⟨_, rfl⟩
  have H1 := Lib.hid (And.intro hs1 he1)
  have O1 := Lib.hid (he1 ▸ ern_or (-x))
  clear hs1 he1
  obtain ⟨s2, hs2⟩ : ∃ s, txt ((x.natAbs : Int)) = s := ⟨_, rfl⟩
  obtain ⟨e2, he2⟩ : ∃ e, ern ((x.natAbs : Int)) = e := ⟨_, rfl⟩
  have H2 := Lib.hid (And.intro hs2 he2)
  have O2 := Lib.hid (he2 ▸ ern_or ((x.natAbs : Int)))
  clear hs2 he2
  have HE1 : Hid (txt (x * -1) = s1 ∧ ern (x * -1) = e1) := by show _ ∧ _; rw [show x * -1 = -x by omega]; exact H1.out
  go_enter Tryz.func16, Tryz.ntmps16
  go_upto_region 13 with (first
  | (go_at_call 17; (with_reducible refine (short_at a _ _ SA.out).mono ?_); rintro e W ⟨rfl, rfl⟩)
  | (go_at_call 21; (with_reducible refine (rvalid_at a _ _ VA.out).mono ?_); rintro e W ⟨rfl, hbz⟩; have HB := Lib.hid (below_then' HB.out hbz); clear hbz)
  | (go_at_call 51; (with_reducible refine (law_toint a x _ HNA.out HXR.out.1 HXR.out.2 (HT.out.below HB.out)).mono ?_); rintro e W ⟨rfl, hbz⟩; have HB := Lib.hid (below_then' HB.out hbz); clear hbz)
  | (go_at_call 43; (with_reducible refine (law_neg a x s1 e1 _ HNA.out H1.out.1 H1.out.2 (HT.out.below HB.out)).mono ?_); rintro e W ⟨rfl, hbz⟩; have HB := Lib.hid (below_then' HB.out hbz); clear hbz)
  | (go_at_call 49; (with_reducible refine (law_abs a x s2 e2 _ HNA.out H2.out.1 H2.out.2 (HT.out.below HB.out)).mono ?_); rintro e W ⟨rfl, hbz⟩; have HB := Lib.hid (below_then' HB.out hbz); clear hbz)
  | (go_at_call 48; (with_reducible refine (law_sign_at a x g3 _ HNA.out HG3.out (HT.out.below HB.out)).mono ?_); rintro e W ⟨rfl, hbz⟩; have HB := Lib.hid (below_then' HB.out hbz); clear hbz)
  | (go_at_call 52; (with_reducible refine (valid_at a _ _ VA.out).mono ?_); rintro e W ⟨rfl, hbz⟩; have HB := Lib.hid (below_then' HB.out hbz); clear hbz)
  | (go_at_call 50; (with_reducible refine (fromInt_c n HI0.out HI1.out _ (HT.out.below HB.out)).mono ?_); rintro e W ⟨he, hbz⟩; rw [HSN.out] at he; subst he; have HB := Lib.hid (below_then' HB.out hbz); clear hbz)
  | (go_at_call 53; (with_reducible refine (rfromint_c n _ HI0.out HI1.out).mono ?_); rintro e W ⟨he, hbz⟩; rw [HSN.out] at he; subst he; have HB := Lib.hid (below_then' HB.out hbz); clear hbz)
  | (go_at_call 23; (with_reducible refine (rof_c a x _ HNA.out).mono ?_); rintro e W ⟨u, rfl, hu, hbz⟩; obtain ⟨A1, n1, c1, b1, rfl⟩ := hu.form; have HX := Lib.hid hu; have HB := Lib.hid (below_then' HB.out hbz); clear hu hbz))
  have k0 : Below W.heap.size W (W.alloc (.cells #[.slice A1 n1 c1, .bool b1] 32)) := (Below.refl _ _).alloc (Nat.le_refl _) _
  have hb1 : (W.alloc (.cells #[.slice A1 n1 c1, .bool b1] 32)).heap[W.heap.size]? = some (.cells #[.slice A1 n1 c1, .bool b1] 32 (0, 0)) := heap_alloc_new _ _
  obtain ⟨V, hV⟩ : ∃ V, W.alloc (.cells #[.slice A1 n1 c1, .bool b1] 32) = V := ⟨_, rfl⟩
  rw [hV] at k0 hb1 ⊢
  have HBV := Lib.hid (below_then' HB.out k0)
  have HTV := Lib.hid (HT.out.below HBV.out)
  have HXV := Lib.hid (HX.out.below k0)
  obtain ⟨P1, hP1⟩ : ∃ P1, W.heap.size = P1 := ⟨_, rfl⟩
  rw [hP1] at hb1 ⊢
  have c10 := box0 hb1; have c11 := box1 hb1
  clear k0 hV hP1 hb1 HB HX
  have HSS : Hid (∀ w', Below V.heap.size V w' → w'.cell? ⟨P1, 0, none⟩ = some (.slice A1 n1 c1) ∧ w'.cell? ⟨P1, 1, none⟩ = some (.bool b1) ∧ Below V.heap.size V w') := fun w' h => ⟨keep_cell h c10, keep_cell h c11, h⟩
  have hbl := Below.refl V.heap.size V
  go_region_held3 (fun w' => w'.cell? ⟨P1, 0, none⟩ = some (.slice A1 n1 c1) ∧ w'.cell? ⟨P1, 1, none⟩ = some (.bool b1) ∧ Below V.heap.size V w')
    ((go_split_ands; (with_reducible refine HSS.out _ ?_); (repeat (first | (with_reducible assumption) | (with_reducible refine below_to ?_ hbz) | (with_reducible refine below_al ?_ _) | (with_reducible refine Below.drew ?_)))))
    (first
    | (go_at_call 23; (with_reducible refine (rof_c _ (-9223372036854775808) _ num_lo).mono ?_); rintro e W9 ⟨u, rfl, hu, hbz⟩; obtain ⟨A2, n2, c2, b2, rfl⟩ := hu.form; have HU2 := Lib.hid hu; clear hu; go_split_ands; have HB9 := Lib.hid (below_to (show Below V.heap.size V _ by assumption) hbz))
    | (go_at_call 46; (with_reducible refine (rorder_c (.agg #[.slice A1 n1 c1, .bool b1]) (.agg #[.slice A2 n2 c2, .bool b2]) x (-9223372036854775808) _ (HXV.out.below ?_) (HU2.out.below ?_) HL1.out HLO.out).mono ?_); (go_split_ands; with_reducible assumption); (first | (with_reducible exact Below.refl _ _) | (with_reducible exact (Below.refl _ _).drew) | (with_reducible exact (Below.refl _ _).alloc (Nat.le_refl _) _) | (with_reducible exact ((Below.refl _ _).alloc (Nat.le_refl _) _).drew)); rintro e W9 ⟨he, hbz⟩; rw [HG1.out] at he; subst he; go_split_ands; have HB9 := Lib.hid (below_to (show Below V.heap.size V _ by assumption) hbz)))
  go_upto_region 14 with fail
  obtain ⟨V2, hV9, hB9⟩ := name_world HB9.out
  try rw [← hV9]
  have c10 := keep_cell hB9 c10; have c11 := keep_cell hB9 c11
  clear hV9
  have HXV := Lib.hid (HXV.out.below hB9)
  have HBV := Lib.hid (below_then' HBV.out hB9)
  have HTV := Lib.hid (HT.out.below HBV.out)
  clear hB9 HB9 HSS hbl
  have HSS : Hid (∀ w', Below V2.heap.size V2 w' → w'.cell? ⟨P1, 0, none⟩ = some (.slice A1 n1 c1) ∧ w'.cell? ⟨P1, 1, none⟩ = some (.bool b1) ∧ Below V2.heap.size V2 w') := fun w' h => ⟨keep_cell h c10, keep_cell h c11, h⟩
  have hbl := Below.refl V2.heap.size V2
  go_region_held3 (fun w' => w'.cell? ⟨P1, 0, none⟩ = some (.slice A1 n1 c1) ∧ w'.cell? ⟨P1, 1, none⟩ = some (.bool b1) ∧ Below V2.heap.size V2 w')
    ((go_split_ands; (with_reducible refine HSS.out _ ?_); (repeat (first | (with_reducible assumption) | (with_reducible refine below_to ?_ hbz) | (with_reducible refine below_al ?_ _) | (with_reducible refine Below.drew ?_)))))
    (first
    | (go_at_call 23; (with_reducible refine (rof_c _ (9223372036854775807) _ num_hi).mono ?_); rintro e W9 ⟨u, rfl, hu, hbz⟩; obtain ⟨A3, n3, c3, b3, rfl⟩ := hu.form; have HU3 := Lib.hid hu; clear hu; go_split_ands; have HB9 := Lib.hid (below_to (show Below V2.heap.size V2 _ by assumption) hbz))
    | (go_at_call 46; (with_reducible refine (rorder_c (.agg #[.slice A1 n1 c1, .bool b1]) (.agg #[.slice A3 n3 c3, .bool b3]) x (9223372036854775807) _ (HXV.out.below ?_) (HU3.out.below ?_) HL1.out HHI.out).mono ?_); (go_split_ands; with_reducible assumption); (first | (with_reducible exact Below.refl _ _) | (with_reducible exact (Below.refl _ _).drew) | (with_reducible exact (Below.refl _ _).alloc (Nat.le_refl _) _) | (with_reducible exact ((Below.refl _ _).alloc (Nat.le_refl _) _).drew)); rintro e W9 ⟨he, hbz⟩; rw [HG2.out] at he; subst he; go_split_ands; have HB9 := Lib.hid (below_to (show Below V2.heap.size V2 _ by assumption) hbz)))
  go_upto_region 15 with fail
  obtain ⟨V3, hV9, hB9⟩ := name_world HB9.out
  try rw [← hV9]
  have c10 := keep_cell hB9 c10; have c11 := keep_cell hB9 c11
  clear hV9
  have HXV := Lib.hid (HXV.out.below hB9)
  have HBV := Lib.hid (below_then' HBV.out hB9)
  have HTV := Lib.hid (HT.out.below HBV.out)
  clear hB9 HB9 HSS hbl
  have HBC : Hid (Below V3.heap.size V3 V3) := Below.refl _ _
  go_upto_region 21 with (first
  | (go_at_call 53; (with_reducible refine (rfromint_c x _ HXR.out.1 HXR.out.2).mono ?_); rintro e W9 ⟨he, hbz⟩; rw [HAT.out] at he; subst he; have c10 := keep_cell hbz c10; have c11 := keep_cell hbz c11; have HBC := Lib.hid (below_then' HBC.out hbz); clear hbz))
  obtain ⟨V8, hV8, hB8⟩ := name_world HBC.out
  try rw [← hV8]
  rw [← hV8] at c10 c11
  clear hV8
  have k0 : Below V8.heap.size V8 (V8.alloc (.cells #[.slice none 0 0, .bool false] 32)) := (Below.refl _ _).alloc (Nat.le_refl _) _
  have hb1 : (V8.alloc (.cells #[.slice none 0 0, .bool false] 32)).heap[V8.heap.size]? = some (.cells #[.slice none 0 0, .bool false] 32 (0, 0)) := heap_alloc_new _ _
  obtain ⟨V9, hV⟩ : ∃ V9, V8.alloc (.cells #[.slice none 0 0, .bool false] 32) = V9 := ⟨_, rfl⟩
  rw [hV] at k0 hb1 ⊢
  obtain ⟨P7, hP7⟩ : ∃ P7, V8.heap.size = P7 := ⟨_, rfl⟩
  rw [hP7] at hb1 ⊢
  have c70 := box0 hb1; have c71 := box1 hb1
  have c10 := keep_cell k0 c10; have c11 := keep_cell k0 c11
  have k1 := below_then' hB8 k0
  have HX9 := Lib.hid (HXV.out.below k1)
  have HA9 : Hid (Ri V9 (.agg #[.slice A1 n1 c1, .bool false]) (x.natAbs : Int)) := by
    obtain ⟨p, e, hp⟩ := HX9.out
    simp at e
    exact ⟨p, by rw [e.1, decide_eq_false (by omega)], by rw [Int.natAbs_natCast]; exact hp⟩
  have HZ9 : Hid (Ri V9 (.agg #[.slice none 0 0, .bool false]) 0) := ⟨_, rfl, Dg.zero (by decide) _⟩
  have HB8 := Lib.hid (below_then' HBV.out k1)
  have HT9 := Lib.hid (HT.out.below HB8.out)
  clear hB8 k0 k1 hV hP7 hb1
  have HSS : Hid (∀ w', Below V9.heap.size V9 w' → w'.cell? ⟨P1, 0, none⟩ = some (.slice A1 n1 c1) ∧ w'.cell? ⟨P1, 1, none⟩ = some (.bool b1) ∧ w'.cell? ⟨P7, 0, none⟩ = some (.slice none 0 0) ∧ w'.cell? ⟨P7, 1, none⟩ = some (.bool false) ∧ Below V9.heap.size V9 w') := fun w' h => ⟨keep_cell h c10, keep_cell h c11, keep_cell h c70, keep_cell h c71, h⟩
  have hbl := Below.refl V9.heap.size V9
  go_region_held3 (fun w' => w'.cell? ⟨P1, 0, none⟩ = some (.slice A1 n1 c1) ∧ w'.cell? ⟨P1, 1, none⟩ = some (.bool b1) ∧ w'.cell? ⟨P7, 0, none⟩ = some (.slice none 0 0) ∧ w'.cell? ⟨P7, 1, none⟩ = some (.bool false) ∧ Below V9.heap.size V9 w')
    ((go_split_ands; (with_reducible refine HSS.out _ ?_); (repeat (first | (with_reducible assumption) | (with_reducible refine below_to ?_ hbz) | (with_reducible refine below_al ?_ _) | (with_reducible refine Below.drew ?_)))))
    (first
    | (go_at_call 18; (with_reducible refine (HS.out _ (HT9.out.below ?_)).mono ?_); (go_split_ands; with_reducible assumption); rintro e W9 ⟨rfl, hbz⟩; go_split_ands; have HB9 := Lib.hid (below_to (show Below V9.heap.size V9 _ by assumption) hbz))
    | (go_at_call 23; (with_reducible refine (rof_c ⟨#[45, 49]⟩ (-1) _ num_m1).mono ?_); rintro e W9 ⟨u, rfl, hu, hbz⟩; obtain ⟨A5, n5, c5, b5, rfl⟩ := hu.form; have HU5 := Lib.hid hu; clear hu; go_split_ands; have HB9 := Lib.hid (below_to (show Below V9.heap.size V9 _ by assumption) hbz))
    | (go_at_call 26; (with_reducible refine (product_c (.agg #[.slice A1 n1 c1, .bool b1]) (.agg #[.slice A5 n5 c5, .bool b5]) x (-1) _ (HX9.out.below ?_) (HU5.out.below ?_) HL1.out HM1.out).mono ?_); (go_split_ands; with_reducible assumption); (first | (with_reducible exact Below.refl _ _) | (with_reducible exact (Below.refl _ _).drew) | (with_reducible exact (Below.refl _ _).alloc (Nat.le_refl _) _) | (with_reducible exact ((Below.refl _ _).alloc (Nat.le_refl _) _).drew)); rintro e W9 ⟨u, rfl, hu, hbz⟩; obtain ⟨A6, n6, c6, b6, rfl⟩ := hu.form; have HU6 := Lib.hid hu; clear hu; go_split_ands; have HB9 := Lib.hid (below_to (show Below V9.heap.size V9 _ by assumption) hbz))
    | (go_at_call 25; (with_reducible refine (is_c s1 e1 (.agg #[.slice A6 n6 c6, .bool b6]) (x * -1) _ (HU6.out.below ?_) HLP.out HE1.out.1 HE1.out.2).mono ?_); (first | (with_reducible exact Below.refl _ _) | (with_reducible exact (Below.refl _ _).drew) | (with_reducible exact (Below.refl _ _).alloc (Nat.le_refl _) _) | (with_reducible exact ((Below.refl _ _).alloc (Nat.le_refl _) _).drew)); rintro e W9 ⟨rfl, hbz⟩; go_split_ands; have HB9 := Lib.hid (below_to (show Below V9.heap.size V9 _ by assumption) hbz))
    | (go_at_call 25; (with_reducible refine (is_c s2 e2 (.agg #[.slice A1 n1 c1, .bool false]) (x.natAbs : Int) _ (HA9.out.below ?_) HLA.out H2.out.1 H2.out.2).mono ?_); (go_split_ands; with_reducible assumption); rintro e W9 ⟨rfl, hbz⟩; go_split_ands; have HB9 := Lib.hid (below_to (show Below V9.heap.size V9 _ by assumption) hbz))
    | (go_at_call 46; (with_reducible refine (rorder_c (.agg #[.slice A1 n1 c1, .bool b1]) (.agg #[.slice none 0 0, .bool false]) x 0 _ (HX9.out.below ?_) (HZ9.out.below ?_) HL1.out HZ0.out).mono ?_); (go_split_ands; with_reducible assumption); (go_split_ands; with_reducible assumption); rintro e W9 ⟨he, hbz⟩; rw [HG4.out] at he; subst he; go_split_ands; have HB9 := Lib.hid (below_to (show Below V9.heap.size V9 _ by assumption) hbz)))
  go_wp2_with fail
  go_ret
  exact ⟨rfl, below_then' HB8.out HB9.out⟩

set_option maxRecDepth 100000 in
set_option maxHeartbeats 8000000 in
theorem texts_low (hsan : San) (a : ByteArray) (n : Int) (w : World) (ht : Tabs w) (hn0 : -9223372036854775808 ≤ n) (hn2 : n ≤ 9223372036854775807) (x : Int) (hr : x < -9223372036854775808) (ha : SB3 true a) (h1 : NumL a.data.toList x) :
    Calls Tryz.prog 16 #[.string a, .int .i64 n] w fun e w' => e = .returned (.bool true) ∧ Below w.heap.size w w' := by
  have HT := Lib.hid ht
  have HB : Hid (Below w.heap.size w w) := Below.refl _ _
  have HS : Hid (∀ w : World, Tabs w → Calls Tryz.prog 18 #[] w fun e w' => e = .returned (.bool true) ∧ Below w.heap.size w w') := hsan
  have HI0 := Lib.hid hn0; have HI1 := Lib.hid hn2
  obtain ⟨sn, hsn⟩ : ∃ s : ByteArray, ⟨(Lib.itoa n).toArray⟩ = s := ⟨_, rfl⟩
  have HSN := Lib.hid hsn
  clear hsn hn0 hn2
  have SA := Lib.hid ha; have VA : Hid (VB true a) := ⟨fun _ => ⟨x, h1⟩, fun _ => rfl⟩
  have HNA := Lib.hid h1
  have HLX := Lib.hid (len_fit h1.2)
  have HL1 : Hid ((dg 10 x.natAbs).length ≤ 1000000) := Nat.le_trans HLX.out (by decide)
  have HLB' : ∀ k : Int, k.natAbs ≤ 9223372036854775808 → (dg 10 k.natAbs).length ≤ 1000000 := fun k hk => Nat.le_trans ((dg_length_le (by decide) _ 20).2 (by omega)) (by decide)
  have HLO : Hid ((dg 10 (-9223372036854775808 : Int).natAbs).length ≤ 1000000) := HLB' _ (by decide)
  have HHI : Hid ((dg 10 (9223372036854775807 : Int).natAbs).length ≤ 1000000) := HLB' _ (by decide)
  have HM1 : Hid ((dg 10 (-1 : Int).natAbs).length ≤ 1000000) := HLB' _ (by decide)
  have HZ0 : Hid ((dg 10 (0 : Int).natAbs).length ≤ 1000000) := HLB' _ (by decide)
  clear HLB'
  have HLP : Hid ((dg 10 (x * -1).natAbs).length ≤ 1000000) := by show _ ≤ _; rw [Int.natAbs_mul]; simpa using HL1.out
  have HLA : Hid ((dg 10 (x.natAbs : Int).natAbs).length ≤ 1000000) := by show _ ≤ _; rw [Int.natAbs_natCast]; exact HL1.out
  have HAT : Hid (⟨(Lib.itoa x).toArray⟩ = a) := by show _ = a; rw [← h1.1]
  obtain ⟨g1, hg1⟩ : ∃ g, sgn (x - -9223372036854775808) = g := ⟨_, rfl⟩
  obtain ⟨g2, hg2⟩ : ∃ g, sgn (x - 9223372036854775807) = g := ⟨_, rfl⟩
  obtain ⟨g3, hg3⟩ : ∃ g, sgn x = g := ⟨_, rfl⟩
  have HG1 := Lib.hid hg1; have HG2 := Lib.hid hg2; have HG3 := Lib.hid hg3
  have HG4 : Hid (sgn (x - 0) = g3) := by show _ = _; rw [Int.sub_zero]; exact hg3
  have HXR : Hid (¬ (-9223372036854775808 ≤ x ∧ x ≤ 9223372036854775807)) := fun h => by omega
  have t1 : g1 < 0 := by rw [← hg1]; exact sg_lt.2 (by omega)
  clear ha h1 hsan ht hg1 hg2 hg3
  obtain ⟨s1, hs1⟩ : ∃ s, txt (-x) = s := ⟨_, rfl⟩
  obtain ⟨e1, he1⟩ : ∃ e, ern (-x) = e := ⟨_, rfl⟩
  have H1 := Lib.hid (And.intro hs1 he1)
  have O1 := Lib.hid (he1 ▸ ern_or (-x))
  clear hs1 he1
  obtain ⟨s2, hs2⟩ : ∃ s, txt ((x.natAbs : Int)) = s := ⟨_, rfl⟩
  obtain ⟨e2, he2⟩ : ∃ e, ern ((x.natAbs : Int)) = e := ⟨_, rfl⟩
  have H2 := Lib.hid (And.intro hs2 he2)
  have O2 := Lib.hid (he2 ▸ ern_or ((x.natAbs : Int)))
  clear hs2 he2
  have HE1 : Hid (txt (x * -1) = s1 ∧ ern (x * -1) = e1) := by show _ ∧ _; rw [show x * -1 = -x by omega]; exact H1.out
  go_enter Tryz.func16, Tryz.ntmps16
  go_upto_region 13 with (first
  | (go_at_call 17; (with_reducible refine (short_at a _ _ SA.out).mono ?_); rintro e W ⟨rfl, rfl⟩)
  | (go_at_call 21; (with_reducible refine (rvalid_at a _ _ VA.out).mono ?_); rintro e W ⟨rfl, hbz⟩; have HB := Lib.hid (below_then' HB.out hbz); clear hbz)
  | (go_at_call 51; (with_reducible refine (toint_far a x _ (HT.out.below HB.out) HNA.out HXR.out).mono ?_); rintro e W ⟨rfl, hbz⟩; have HB := Lib.hid (below_then' HB.out hbz); clear hbz)
  | (go_at_call 43; (with_reducible refine (law_neg a x s1 e1 _ HNA.out H1.out.1 H1.out.2 (HT.out.below HB.out)).mono ?_); rintro e W ⟨rfl, hbz⟩; have HB := Lib.hid (below_then' HB.out hbz); clear hbz)
  | (go_at_call 49; (with_reducible refine (law_abs a x s2 e2 _ HNA.out H2.out.1 H2.out.2 (HT.out.below HB.out)).mono ?_); rintro e W ⟨rfl, hbz⟩; have HB := Lib.hid (below_then' HB.out hbz); clear hbz)
  | (go_at_call 48; (with_reducible refine (law_sign_at a x g3 _ HNA.out HG3.out (HT.out.below HB.out)).mono ?_); rintro e W ⟨rfl, hbz⟩; have HB := Lib.hid (below_then' HB.out hbz); clear hbz)
  | (go_at_call 52; (with_reducible refine (valid_at a _ _ VA.out).mono ?_); rintro e W ⟨rfl, hbz⟩; have HB := Lib.hid (below_then' HB.out hbz); clear hbz)
  | (go_at_call 50; (with_reducible refine (fromInt_c n HI0.out HI1.out _ (HT.out.below HB.out)).mono ?_); rintro e W ⟨he, hbz⟩; rw [HSN.out] at he; subst he; have HB := Lib.hid (below_then' HB.out hbz); clear hbz)
  | (go_at_call 53; (with_reducible refine (rfromint_c n _ HI0.out HI1.out).mono ?_); rintro e W ⟨he, hbz⟩; rw [HSN.out] at he; subst he; have HB := Lib.hid (below_then' HB.out hbz); clear hbz)
  | (go_at_call 23; (with_reducible refine (rof_c a x _ HNA.out).mono ?_); rintro e W ⟨u, rfl, hu, hbz⟩; obtain ⟨A1, n1, c1, b1, rfl⟩ := hu.form; have HX := Lib.hid hu; have HB := Lib.hid (below_then' HB.out hbz); clear hu hbz))
  have k0 : Below W.heap.size W (W.alloc (.cells #[.slice A1 n1 c1, .bool b1] 32)) := (Below.refl _ _).alloc (Nat.le_refl _) _
  have hb1 : (W.alloc (.cells #[.slice A1 n1 c1, .bool b1] 32)).heap[W.heap.size]? = some (.cells #[.slice A1 n1 c1, .bool b1] 32 (0, 0)) := heap_alloc_new _ _
  obtain ⟨V, hV⟩ : ∃ V, W.alloc (.cells #[.slice A1 n1 c1, .bool b1] 32) = V := ⟨_, rfl⟩
  rw [hV] at k0 hb1 ⊢
  have HBV := Lib.hid (below_then' HB.out k0)
  have HTV := Lib.hid (HT.out.below HBV.out)
  have HXV := Lib.hid (HX.out.below k0)
  obtain ⟨P1, hP1⟩ : ∃ P1, W.heap.size = P1 := ⟨_, rfl⟩
  rw [hP1] at hb1 ⊢
  have c10 := box0 hb1; have c11 := box1 hb1
  clear k0 hV hP1 hb1 HB HX
  have HSS : Hid (∀ w', Below V.heap.size V w' → w'.cell? ⟨P1, 0, none⟩ = some (.slice A1 n1 c1) ∧ w'.cell? ⟨P1, 1, none⟩ = some (.bool b1) ∧ Below V.heap.size V w') := fun w' h => ⟨keep_cell h c10, keep_cell h c11, h⟩
  have hbl := Below.refl V.heap.size V
  go_region_held3 (fun w' => w'.cell? ⟨P1, 0, none⟩ = some (.slice A1 n1 c1) ∧ w'.cell? ⟨P1, 1, none⟩ = some (.bool b1) ∧ Below V.heap.size V w')
    ((go_split_ands; (with_reducible refine HSS.out _ ?_); (repeat (first | (with_reducible assumption) | (with_reducible refine below_to ?_ hbz) | (with_reducible refine below_al ?_ _) | (with_reducible refine Below.drew ?_)))))
    (first
    | (go_at_call 23; (with_reducible refine (rof_c _ (-9223372036854775808) _ num_lo).mono ?_); rintro e W9 ⟨u, rfl, hu, hbz⟩; obtain ⟨A2, n2, c2, b2, rfl⟩ := hu.form; have HU2 := Lib.hid hu; clear hu; go_split_ands; have HB9 := Lib.hid (below_to (show Below V.heap.size V _ by assumption) hbz))
    | (go_at_call 46; (with_reducible refine (rorder_c (.agg #[.slice A1 n1 c1, .bool b1]) (.agg #[.slice A2 n2 c2, .bool b2]) x (-9223372036854775808) _ (HXV.out.below ?_) (HU2.out.below ?_) HL1.out HLO.out).mono ?_); (go_split_ands; with_reducible assumption); (first | (with_reducible exact Below.refl _ _) | (with_reducible exact (Below.refl _ _).drew) | (with_reducible exact (Below.refl _ _).alloc (Nat.le_refl _) _) | (with_reducible exact ((Below.refl _ _).alloc (Nat.le_refl _) _).drew)); rintro e W9 ⟨he, hbz⟩; rw [HG1.out] at he; subst he; go_split_ands; have HB9 := Lib.hid (below_to (show Below V.heap.size V _ by assumption) hbz)))
  go_upto_region 14 with fail
  obtain ⟨V2, hV9, hB9⟩ := name_world HB9.out
  try rw [← hV9]
  have c10 := keep_cell hB9 c10; have c11 := keep_cell hB9 c11
  clear hV9
  have HXV := Lib.hid (HXV.out.below hB9)
  have HBV := Lib.hid (below_then' HBV.out hB9)
  have HTV := Lib.hid (HT.out.below HBV.out)
  clear hB9 HB9 HSS hbl
  have HSS : Hid (∀ w', Below V2.heap.size V2 w' → w'.cell? ⟨P1, 0, none⟩ = some (.slice A1 n1 c1) ∧ w'.cell? ⟨P1, 1, none⟩ = some (.bool b1) ∧ Below V2.heap.size V2 w') := fun w' h => ⟨keep_cell h c10, keep_cell h c11, h⟩
  have hbl := Below.refl V2.heap.size V2
  go_region_held3 (fun w' => w'.cell? ⟨P1, 0, none⟩ = some (.slice A1 n1 c1) ∧ w'.cell? ⟨P1, 1, none⟩ = some (.bool b1) ∧ Below V2.heap.size V2 w')
    ((go_split_ands; (with_reducible refine HSS.out _ ?_); (repeat (first | (with_reducible assumption) | (with_reducible refine below_to ?_ hbz) | (with_reducible refine below_al ?_ _) | (with_reducible refine Below.drew ?_)))))
    (first
    | (go_at_call 23; (with_reducible refine (rof_c _ (9223372036854775807) _ num_hi).mono ?_); rintro e W9 ⟨u, rfl, hu, hbz⟩; obtain ⟨A3, n3, c3, b3, rfl⟩ := hu.form; have HU3 := Lib.hid hu; clear hu; go_split_ands; have HB9 := Lib.hid (below_to (show Below V2.heap.size V2 _ by assumption) hbz))
    | (go_at_call 46; (with_reducible refine (rorder_c (.agg #[.slice A1 n1 c1, .bool b1]) (.agg #[.slice A3 n3 c3, .bool b3]) x (9223372036854775807) _ (HXV.out.below ?_) (HU3.out.below ?_) HL1.out HHI.out).mono ?_); (go_split_ands; with_reducible assumption); (first | (with_reducible exact Below.refl _ _) | (with_reducible exact (Below.refl _ _).drew) | (with_reducible exact (Below.refl _ _).alloc (Nat.le_refl _) _) | (with_reducible exact ((Below.refl _ _).alloc (Nat.le_refl _) _).drew)); rintro e W9 ⟨he, hbz⟩; rw [HG2.out] at he; subst he; go_split_ands; have HB9 := Lib.hid (below_to (show Below V2.heap.size V2 _ by assumption) hbz)))
  go_upto_region 15 with fail
  obtain ⟨V3, hV9, hB9⟩ := name_world HB9.out
  try rw [← hV9]
  have c10 := keep_cell hB9 c10; have c11 := keep_cell hB9 c11
  clear hV9
  have HXV := Lib.hid (HXV.out.below hB9)
  have HBV := Lib.hid (below_then' HBV.out hB9)
  have HTV := Lib.hid (HT.out.below HBV.out)
  clear hB9 HB9 HSS hbl
  have HBC : Hid (Below V3.heap.size V3 V3) := Below.refl _ _
  go_upto_region 21 with fail
  obtain ⟨V8, hV8, hB8⟩ := name_world HBC.out
  try rw [← hV8]
  rw [← hV8] at c10 c11
  clear hV8
  have k0 : Below V8.heap.size V8 (V8.alloc (.cells #[.slice none 0 0, .bool false] 32)) := (Below.refl _ _).alloc (Nat.le_refl _) _
  have hb1 : (V8.alloc (.cells #[.slice none 0 0, .bool false] 32)).heap[V8.heap.size]? = some (.cells #[.slice none 0 0, .bool false] 32 (0, 0)) := heap_alloc_new _ _
  obtain ⟨V9, hV⟩ : ∃ V9, V8.alloc (.cells #[.slice none 0 0, .bool false] 32) = V9 := ⟨_, rfl⟩
  rw [hV] at k0 hb1 ⊢
  obtain ⟨P7, hP7⟩ : ∃ P7, V8.heap.size = P7 := ⟨_, rfl⟩
  rw [hP7] at hb1 ⊢
  have c70 := box0 hb1; have c71 := box1 hb1
  have c10 := keep_cell k0 c10; have c11 := keep_cell k0 c11
  have k1 := below_then' hB8 k0
  have HX9 := Lib.hid (HXV.out.below k1)
  have HA9 : Hid (Ri V9 (.agg #[.slice A1 n1 c1, .bool false]) (x.natAbs : Int)) := by
    obtain ⟨p, e, hp⟩ := HX9.out
    simp at e
    exact ⟨p, by rw [e.1, decide_eq_false (by omega)], by rw [Int.natAbs_natCast]; exact hp⟩
  have HZ9 : Hid (Ri V9 (.agg #[.slice none 0 0, .bool false]) 0) := ⟨_, rfl, Dg.zero (by decide) _⟩
  have HB8 := Lib.hid (below_then' HBV.out k1)
  have HT9 := Lib.hid (HT.out.below HB8.out)
  clear hB8 k0 k1 hV hP7 hb1
  have HSS : Hid (∀ w', Below V9.heap.size V9 w' → w'.cell? ⟨P1, 0, none⟩ = some (.slice A1 n1 c1) ∧ w'.cell? ⟨P1, 1, none⟩ = some (.bool b1) ∧ w'.cell? ⟨P7, 0, none⟩ = some (.slice none 0 0) ∧ w'.cell? ⟨P7, 1, none⟩ = some (.bool false) ∧ Below V9.heap.size V9 w') := fun w' h => ⟨keep_cell h c10, keep_cell h c11, keep_cell h c70, keep_cell h c71, h⟩
  have hbl := Below.refl V9.heap.size V9
  go_region_held3 (fun w' => w'.cell? ⟨P1, 0, none⟩ = some (.slice A1 n1 c1) ∧ w'.cell? ⟨P1, 1, none⟩ = some (.bool b1) ∧ w'.cell? ⟨P7, 0, none⟩ = some (.slice none 0 0) ∧ w'.cell? ⟨P7, 1, none⟩ = some (.bool false) ∧ Below V9.heap.size V9 w')
    ((go_split_ands; (with_reducible refine HSS.out _ ?_); (repeat (first | (with_reducible assumption) | (with_reducible refine below_to ?_ hbz) | (with_reducible refine below_al ?_ _) | (with_reducible refine Below.drew ?_)))))
    (first
    | (go_at_call 18; (with_reducible refine (HS.out _ (HT9.out.below ?_)).mono ?_); (go_split_ands; with_reducible assumption); rintro e W9 ⟨rfl, hbz⟩; go_split_ands; have HB9 := Lib.hid (below_to (show Below V9.heap.size V9 _ by assumption) hbz))
    | (go_at_call 23; (with_reducible refine (rof_c ⟨#[45, 49]⟩ (-1) _ num_m1).mono ?_); rintro e W9 ⟨u, rfl, hu, hbz⟩; obtain ⟨A5, n5, c5, b5, rfl⟩ := hu.form; have HU5 := Lib.hid hu; clear hu; go_split_ands; have HB9 := Lib.hid (below_to (show Below V9.heap.size V9 _ by assumption) hbz))
    | (go_at_call 26; (with_reducible refine (product_c (.agg #[.slice A1 n1 c1, .bool b1]) (.agg #[.slice A5 n5 c5, .bool b5]) x (-1) _ (HX9.out.below ?_) (HU5.out.below ?_) HL1.out HM1.out).mono ?_); (go_split_ands; with_reducible assumption); (first | (with_reducible exact Below.refl _ _) | (with_reducible exact (Below.refl _ _).drew) | (with_reducible exact (Below.refl _ _).alloc (Nat.le_refl _) _) | (with_reducible exact ((Below.refl _ _).alloc (Nat.le_refl _) _).drew)); rintro e W9 ⟨u, rfl, hu, hbz⟩; obtain ⟨A6, n6, c6, b6, rfl⟩ := hu.form; have HU6 := Lib.hid hu; clear hu; go_split_ands; have HB9 := Lib.hid (below_to (show Below V9.heap.size V9 _ by assumption) hbz))
    | (go_at_call 25; (with_reducible refine (is_c s1 e1 (.agg #[.slice A6 n6 c6, .bool b6]) (x * -1) _ (HU6.out.below ?_) HLP.out HE1.out.1 HE1.out.2).mono ?_); (first | (with_reducible exact Below.refl _ _) | (with_reducible exact (Below.refl _ _).drew) | (with_reducible exact (Below.refl _ _).alloc (Nat.le_refl _) _) | (with_reducible exact ((Below.refl _ _).alloc (Nat.le_refl _) _).drew)); rintro e W9 ⟨rfl, hbz⟩; go_split_ands; have HB9 := Lib.hid (below_to (show Below V9.heap.size V9 _ by assumption) hbz))
    | (go_at_call 25; (with_reducible refine (is_c s2 e2 (.agg #[.slice A1 n1 c1, .bool false]) (x.natAbs : Int) _ (HA9.out.below ?_) HLA.out H2.out.1 H2.out.2).mono ?_); (go_split_ands; with_reducible assumption); rintro e W9 ⟨rfl, hbz⟩; go_split_ands; have HB9 := Lib.hid (below_to (show Below V9.heap.size V9 _ by assumption) hbz))
    | (go_at_call 46; (with_reducible refine (rorder_c (.agg #[.slice A1 n1 c1, .bool b1]) (.agg #[.slice none 0 0, .bool false]) x 0 _ (HX9.out.below ?_) (HZ9.out.below ?_) HL1.out HZ0.out).mono ?_); (go_split_ands; with_reducible assumption); (go_split_ands; with_reducible assumption); rintro e W9 ⟨he, hbz⟩; rw [HG4.out] at he; subst he; go_split_ands; have HB9 := Lib.hid (below_to (show Below V9.heap.size V9 _ by assumption) hbz)))
  go_wp2_with fail
  go_ret
  exact ⟨rfl, below_then' HB8.out HB9.out⟩

set_option maxRecDepth 100000 in
set_option maxHeartbeats 8000000 in
theorem texts_high (hsan : San) (a : ByteArray) (n : Int) (w : World) (ht : Tabs w) (hn0 : -9223372036854775808 ≤ n) (hn2 : n ≤ 9223372036854775807) (x : Int) (hr : 9223372036854775807 < x) (ha : SB3 true a) (h1 : NumL a.data.toList x) :
    Calls Tryz.prog 16 #[.string a, .int .i64 n] w fun e w' => e = .returned (.bool true) ∧ Below w.heap.size w w' := by
  have HT := Lib.hid ht
  have HB : Hid (Below w.heap.size w w) := Below.refl _ _
  have HS : Hid (∀ w : World, Tabs w → Calls Tryz.prog 18 #[] w fun e w' => e = .returned (.bool true) ∧ Below w.heap.size w w') := hsan
  have HI0 := Lib.hid hn0; have HI1 := Lib.hid hn2
  obtain ⟨sn, hsn⟩ : ∃ s : ByteArray, ⟨(Lib.itoa n).toArray⟩ = s := ⟨_, rfl⟩
  have HSN := Lib.hid hsn
  clear hsn hn0 hn2
  have SA := Lib.hid ha; have VA : Hid (VB true a) := ⟨fun _ => ⟨x, h1⟩, fun _ => rfl⟩
  have HNA := Lib.hid h1
  have HLX := Lib.hid (len_fit h1.2)
  have HL1 : Hid ((dg 10 x.natAbs).length ≤ 1000000) := Nat.le_trans HLX.out (by decide)
  have HLB' : ∀ k : Int, k.natAbs ≤ 9223372036854775808 → (dg 10 k.natAbs).length ≤ 1000000 := fun k hk => Nat.le_trans ((dg_length_le (by decide) _ 20).2 (by omega)) (by decide)
  have HLO : Hid ((dg 10 (-9223372036854775808 : Int).natAbs).length ≤ 1000000) := HLB' _ (by decide)
  have HHI : Hid ((dg 10 (9223372036854775807 : Int).natAbs).length ≤ 1000000) := HLB' _ (by decide)
  have HM1 : Hid ((dg 10 (-1 : Int).natAbs).length ≤ 1000000) := HLB' _ (by decide)
  have HZ0 : Hid ((dg 10 (0 : Int).natAbs).length ≤ 1000000) := HLB' _ (by decide)
  clear HLB'
  have HLP : Hid ((dg 10 (x * -1).natAbs).length ≤ 1000000) := by show _ ≤ _; rw [Int.natAbs_mul]; simpa using HL1.out
  have HLA : Hid ((dg 10 (x.natAbs : Int).natAbs).length ≤ 1000000) := by show _ ≤ _; rw [Int.natAbs_natCast]; exact HL1.out
  have HAT : Hid (⟨(Lib.itoa x).toArray⟩ = a) := by show _ = a; rw [← h1.1]
  obtain ⟨g1, hg1⟩ : ∃ g, sgn (x - -9223372036854775808) = g := ⟨_, rfl⟩
  obtain ⟨g2, hg2⟩ : ∃ g, sgn (x - 9223372036854775807) = g := ⟨_, rfl⟩
  obtain ⟨g3, hg3⟩ : ∃ g, sgn x = g := ⟨_, rfl⟩
  have HG1 := Lib.hid hg1; have HG2 := Lib.hid hg2; have HG3 := Lib.hid hg3
  have HG4 : Hid (sgn (x - 0) = g3) := by show _ = _; rw [Int.sub_zero]; exact hg3
  have HXR : Hid (¬ (-9223372036854775808 ≤ x ∧ x ≤ 9223372036854775807)) := fun h => by omega
  have t1 : ¬ g1 < 0 := by rw [← hg1]; intro h; have := sg_lt.1 h; omega
  have t2 : 0 < g2 := by rw [← hg2]; exact sg_gt.2 (by omega)
  clear ha h1 hsan ht hg1 hg2 hg3
  obtain ⟨s1, hs1⟩ : ∃ s, txt (-x) = s := ⟨_, rfl⟩
  obtain ⟨e1, he1⟩ : ∃ e, ern (-x) = e := ⟨_, rfl⟩
  have H1 := Lib.hid (And.intro hs1 he1)
  have O1 := Lib.hid (he1 ▸ ern_or (-x))
  clear hs1 he1
  obtain ⟨s2, hs2⟩ : ∃ s, txt ((x.natAbs : Int)) = s := ⟨_, rfl⟩
  obtain ⟨e2, he2⟩ : ∃ e, ern ((x.natAbs : Int)) = e := ⟨_, rfl⟩
  have H2 := Lib.hid (And.intro hs2 he2)
  have O2 := Lib.hid (he2 ▸ ern_or ((x.natAbs : Int)))
  clear hs2 he2
  have HE1 : Hid (txt (x * -1) = s1 ∧ ern (x * -1) = e1) := by show _ ∧ _; rw [show x * -1 = -x by omega]; exact H1.out
  go_enter Tryz.func16, Tryz.ntmps16
  go_upto_region 13 with (first
  | (go_at_call 17; (with_reducible refine (short_at a _ _ SA.out).mono ?_); rintro e W ⟨rfl, rfl⟩)
  | (go_at_call 21; (with_reducible refine (rvalid_at a _ _ VA.out).mono ?_); rintro e W ⟨rfl, hbz⟩; have HB := Lib.hid (below_then' HB.out hbz); clear hbz)
  | (go_at_call 51; (with_reducible refine (toint_far a x _ (HT.out.below HB.out) HNA.out HXR.out).mono ?_); rintro e W ⟨rfl, hbz⟩; have HB := Lib.hid (below_then' HB.out hbz); clear hbz)
  | (go_at_call 43; (with_reducible refine (law_neg a x s1 e1 _ HNA.out H1.out.1 H1.out.2 (HT.out.below HB.out)).mono ?_); rintro e W ⟨rfl, hbz⟩; have HB := Lib.hid (below_then' HB.out hbz); clear hbz)
  | (go_at_call 49; (with_reducible refine (law_abs a x s2 e2 _ HNA.out H2.out.1 H2.out.2 (HT.out.below HB.out)).mono ?_); rintro e W ⟨rfl, hbz⟩; have HB := Lib.hid (below_then' HB.out hbz); clear hbz)
  | (go_at_call 48; (with_reducible refine (law_sign_at a x g3 _ HNA.out HG3.out (HT.out.below HB.out)).mono ?_); rintro e W ⟨rfl, hbz⟩; have HB := Lib.hid (below_then' HB.out hbz); clear hbz)
  | (go_at_call 52; (with_reducible refine (valid_at a _ _ VA.out).mono ?_); rintro e W ⟨rfl, hbz⟩; have HB := Lib.hid (below_then' HB.out hbz); clear hbz)
  | (go_at_call 50; (with_reducible refine (fromInt_c n HI0.out HI1.out _ (HT.out.below HB.out)).mono ?_); rintro e W ⟨he, hbz⟩; rw [HSN.out] at he; subst he; have HB := Lib.hid (below_then' HB.out hbz); clear hbz)
  | (go_at_call 53; (with_reducible refine (rfromint_c n _ HI0.out HI1.out).mono ?_); rintro e W ⟨he, hbz⟩; rw [HSN.out] at he; subst he; have HB := Lib.hid (below_then' HB.out hbz); clear hbz)
  | (go_at_call 23; (with_reducible refine (rof_c a x _ HNA.out).mono ?_); rintro e W ⟨u, rfl, hu, hbz⟩; obtain ⟨A1, n1, c1, b1, rfl⟩ := hu.form; have HX := Lib.hid hu; have HB := Lib.hid (below_then' HB.out hbz); clear hu hbz))
  have k0 : Below W.heap.size W (W.alloc (.cells #[.slice A1 n1 c1, .bool b1] 32)) := (Below.refl _ _).alloc (Nat.le_refl _) _
  have hb1 : (W.alloc (.cells #[.slice A1 n1 c1, .bool b1] 32)).heap[W.heap.size]? = some (.cells #[.slice A1 n1 c1, .bool b1] 32 (0, 0)) := heap_alloc_new _ _
  obtain ⟨V, hV⟩ : ∃ V, W.alloc (.cells #[.slice A1 n1 c1, .bool b1] 32) = V := ⟨_, rfl⟩
  rw [hV] at k0 hb1 ⊢
  have HBV := Lib.hid (below_then' HB.out k0)
  have HTV := Lib.hid (HT.out.below HBV.out)
  have HXV := Lib.hid (HX.out.below k0)
  obtain ⟨P1, hP1⟩ : ∃ P1, W.heap.size = P1 := ⟨_, rfl⟩
  rw [hP1] at hb1 ⊢
  have c10 := box0 hb1; have c11 := box1 hb1
  clear k0 hV hP1 hb1 HB HX
  have HSS : Hid (∀ w', Below V.heap.size V w' → w'.cell? ⟨P1, 0, none⟩ = some (.slice A1 n1 c1) ∧ w'.cell? ⟨P1, 1, none⟩ = some (.bool b1) ∧ Below V.heap.size V w') := fun w' h => ⟨keep_cell h c10, keep_cell h c11, h⟩
  have hbl := Below.refl V.heap.size V
  go_region_held3 (fun w' => w'.cell? ⟨P1, 0, none⟩ = some (.slice A1 n1 c1) ∧ w'.cell? ⟨P1, 1, none⟩ = some (.bool b1) ∧ Below V.heap.size V w')
    ((go_split_ands; (with_reducible refine HSS.out _ ?_); (repeat (first | (with_reducible assumption) | (with_reducible refine below_to ?_ hbz) | (with_reducible refine below_al ?_ _) | (with_reducible refine Below.drew ?_)))))
    (first
    | (go_at_call 23; (with_reducible refine (rof_c _ (-9223372036854775808) _ num_lo).mono ?_); rintro e W9 ⟨u, rfl, hu, hbz⟩; obtain ⟨A2, n2, c2, b2, rfl⟩ := hu.form; have HU2 := Lib.hid hu; clear hu; go_split_ands; have HB9 := Lib.hid (below_to (show Below V.heap.size V _ by assumption) hbz))
    | (go_at_call 46; (with_reducible refine (rorder_c (.agg #[.slice A1 n1 c1, .bool b1]) (.agg #[.slice A2 n2 c2, .bool b2]) x (-9223372036854775808) _ (HXV.out.below ?_) (HU2.out.below ?_) HL1.out HLO.out).mono ?_); (go_split_ands; with_reducible assumption); (first | (with_reducible exact Below.refl _ _) | (with_reducible exact (Below.refl _ _).drew) | (with_reducible exact (Below.refl _ _).alloc (Nat.le_refl _) _) | (with_reducible exact ((Below.refl _ _).alloc (Nat.le_refl _) _).drew)); rintro e W9 ⟨he, hbz⟩; rw [HG1.out] at he; subst he; go_split_ands; have HB9 := Lib.hid (below_to (show Below V.heap.size V _ by assumption) hbz)))
  go_upto_region 14 with fail
  obtain ⟨V2, hV9, hB9⟩ := name_world HB9.out
  try rw [← hV9]
  have c10 := keep_cell hB9 c10; have c11 := keep_cell hB9 c11
  clear hV9
  have HXV := Lib.hid (HXV.out.below hB9)
  have HBV := Lib.hid (below_then' HBV.out hB9)
  have HTV := Lib.hid (HT.out.below HBV.out)
  clear hB9 HB9 HSS hbl
  have HSS : Hid (∀ w', Below V2.heap.size V2 w' → w'.cell? ⟨P1, 0, none⟩ = some (.slice A1 n1 c1) ∧ w'.cell? ⟨P1, 1, none⟩ = some (.bool b1) ∧ Below V2.heap.size V2 w') := fun w' h => ⟨keep_cell h c10, keep_cell h c11, h⟩
  have hbl := Below.refl V2.heap.size V2
  go_region_held3 (fun w' => w'.cell? ⟨P1, 0, none⟩ = some (.slice A1 n1 c1) ∧ w'.cell? ⟨P1, 1, none⟩ = some (.bool b1) ∧ Below V2.heap.size V2 w')
    ((go_split_ands; (with_reducible refine HSS.out _ ?_); (repeat (first | (with_reducible assumption) | (with_reducible refine below_to ?_ hbz) | (with_reducible refine below_al ?_ _) | (with_reducible refine Below.drew ?_)))))
    (first
    | (go_at_call 23; (with_reducible refine (rof_c _ (9223372036854775807) _ num_hi).mono ?_); rintro e W9 ⟨u, rfl, hu, hbz⟩; obtain ⟨A3, n3, c3, b3, rfl⟩ := hu.form; have HU3 := Lib.hid hu; clear hu; go_split_ands; have HB9 := Lib.hid (below_to (show Below V2.heap.size V2 _ by assumption) hbz))
    | (go_at_call 46; (with_reducible refine (rorder_c (.agg #[.slice A1 n1 c1, .bool b1]) (.agg #[.slice A3 n3 c3, .bool b3]) x (9223372036854775807) _ (HXV.out.below ?_) (HU3.out.below ?_) HL1.out HHI.out).mono ?_); (go_split_ands; with_reducible assumption); (first | (with_reducible exact Below.refl _ _) | (with_reducible exact (Below.refl _ _).drew) | (with_reducible exact (Below.refl _ _).alloc (Nat.le_refl _) _) | (with_reducible exact ((Below.refl _ _).alloc (Nat.le_refl _) _).drew)); rintro e W9 ⟨he, hbz⟩; rw [HG2.out] at he; subst he; go_split_ands; have HB9 := Lib.hid (below_to (show Below V2.heap.size V2 _ by assumption) hbz)))
  go_upto_region 15 with fail
  obtain ⟨V3, hV9, hB9⟩ := name_world HB9.out
  try rw [← hV9]
  have c10 := keep_cell hB9 c10; have c11 := keep_cell hB9 c11
  clear hV9
  have HXV := Lib.hid (HXV.out.below hB9)
  have HBV := Lib.hid (below_then' HBV.out hB9)
  have HTV := Lib.hid (HT.out.below HBV.out)
  clear hB9 HB9 HSS hbl
  have HBC : Hid (Below V3.heap.size V3 V3) := Below.refl _ _
  go_upto_region 21 with fail
  obtain ⟨V8, hV8, hB8⟩ := name_world HBC.out
  try rw [← hV8]
  rw [← hV8] at c10 c11
  clear hV8
  have k0 : Below V8.heap.size V8 (V8.alloc (.cells #[.slice none 0 0, .bool false] 32)) := (Below.refl _ _).alloc (Nat.le_refl _) _
  have hb1 : (V8.alloc (.cells #[.slice none 0 0, .bool false] 32)).heap[V8.heap.size]? = some (.cells #[.slice none 0 0, .bool false] 32 (0, 0)) := heap_alloc_new _ _
  obtain ⟨V9, hV⟩ : ∃ V9, V8.alloc (.cells #[.slice none 0 0, .bool false] 32) = V9 := ⟨_, rfl⟩
  rw [hV] at k0 hb1 ⊢
  obtain ⟨P7, hP7⟩ : ∃ P7, V8.heap.size = P7 := ⟨_, rfl⟩
  rw [hP7] at hb1 ⊢
  have c70 := box0 hb1; have c71 := box1 hb1
  have c10 := keep_cell k0 c10; have c11 := keep_cell k0 c11
  have k1 := below_then' hB8 k0
  have HX9 := Lib.hid (HXV.out.below k1)
  have HA9 : Hid (Ri V9 (.agg #[.slice A1 n1 c1, .bool false]) (x.natAbs : Int)) := by
    obtain ⟨p, e, hp⟩ := HX9.out
    simp at e
    exact ⟨p, by rw [e.1, decide_eq_false (by omega)], by rw [Int.natAbs_natCast]; exact hp⟩
  have HZ9 : Hid (Ri V9 (.agg #[.slice none 0 0, .bool false]) 0) := ⟨_, rfl, Dg.zero (by decide) _⟩
  have HB8 := Lib.hid (below_then' HBV.out k1)
  have HT9 := Lib.hid (HT.out.below HB8.out)
  clear hB8 k0 k1 hV hP7 hb1
  have HSS : Hid (∀ w', Below V9.heap.size V9 w' → w'.cell? ⟨P1, 0, none⟩ = some (.slice A1 n1 c1) ∧ w'.cell? ⟨P1, 1, none⟩ = some (.bool b1) ∧ w'.cell? ⟨P7, 0, none⟩ = some (.slice none 0 0) ∧ w'.cell? ⟨P7, 1, none⟩ = some (.bool false) ∧ Below V9.heap.size V9 w') := fun w' h => ⟨keep_cell h c10, keep_cell h c11, keep_cell h c70, keep_cell h c71, h⟩
  have hbl := Below.refl V9.heap.size V9
  go_region_held3 (fun w' => w'.cell? ⟨P1, 0, none⟩ = some (.slice A1 n1 c1) ∧ w'.cell? ⟨P1, 1, none⟩ = some (.bool b1) ∧ w'.cell? ⟨P7, 0, none⟩ = some (.slice none 0 0) ∧ w'.cell? ⟨P7, 1, none⟩ = some (.bool false) ∧ Below V9.heap.size V9 w')
    ((go_split_ands; (with_reducible refine HSS.out _ ?_); (repeat (first | (with_reducible assumption) | (with_reducible refine below_to ?_ hbz) | (with_reducible refine below_al ?_ _) | (with_reducible refine Below.drew ?_)))))
    (first
    | (go_at_call 18; (with_reducible refine (HS.out _ (HT9.out.below ?_)).mono ?_); (go_split_ands; with_reducible assumption); rintro e W9 ⟨rfl, hbz⟩; go_split_ands; have HB9 := Lib.hid (below_to (show Below V9.heap.size V9 _ by assumption) hbz))
    | (go_at_call 23; (with_reducible refine (rof_c ⟨#[45, 49]⟩ (-1) _ num_m1).mono ?_); rintro e W9 ⟨u, rfl, hu, hbz⟩; obtain ⟨A5, n5, c5, b5, rfl⟩ := hu.form; have HU5 := Lib.hid hu; clear hu; go_split_ands; have HB9 := Lib.hid (below_to (show Below V9.heap.size V9 _ by assumption) hbz))
    | (go_at_call 26; (with_reducible refine (product_c (.agg #[.slice A1 n1 c1, .bool b1]) (.agg #[.slice A5 n5 c5, .bool b5]) x (-1) _ (HX9.out.below ?_) (HU5.out.below ?_) HL1.out HM1.out).mono ?_); (go_split_ands; with_reducible assumption); (first | (with_reducible exact Below.refl _ _) | (with_reducible exact (Below.refl _ _).drew) | (with_reducible exact (Below.refl _ _).alloc (Nat.le_refl _) _) | (with_reducible exact ((Below.refl _ _).alloc (Nat.le_refl _) _).drew)); rintro e W9 ⟨u, rfl, hu, hbz⟩; obtain ⟨A6, n6, c6, b6, rfl⟩ := hu.form; have HU6 := Lib.hid hu; clear hu; go_split_ands; have HB9 := Lib.hid (below_to (show Below V9.heap.size V9 _ by assumption) hbz))
    | (go_at_call 25; (with_reducible refine (is_c s1 e1 (.agg #[.slice A6 n6 c6, .bool b6]) (x * -1) _ (HU6.out.below ?_) HLP.out HE1.out.1 HE1.out.2).mono ?_); (first | (with_reducible exact Below.refl _ _) | (with_reducible exact (Below.refl _ _).drew) | (with_reducible exact (Below.refl _ _).alloc (Nat.le_refl _) _) | (with_reducible exact ((Below.refl _ _).alloc (Nat.le_refl _) _).drew)); rintro e W9 ⟨rfl, hbz⟩; go_split_ands; have HB9 := Lib.hid (below_to (show Below V9.heap.size V9 _ by assumption) hbz))
    | (go_at_call 25; (with_reducible refine (is_c s2 e2 (.agg #[.slice A1 n1 c1, .bool false]) (x.natAbs : Int) _ (HA9.out.below ?_) HLA.out H2.out.1 H2.out.2).mono ?_); (go_split_ands; with_reducible assumption); rintro e W9 ⟨rfl, hbz⟩; go_split_ands; have HB9 := Lib.hid (below_to (show Below V9.heap.size V9 _ by assumption) hbz))
    | (go_at_call 46; (with_reducible refine (rorder_c (.agg #[.slice A1 n1 c1, .bool b1]) (.agg #[.slice none 0 0, .bool false]) x 0 _ (HX9.out.below ?_) (HZ9.out.below ?_) HL1.out HZ0.out).mono ?_); (go_split_ands; with_reducible assumption); (go_split_ands; with_reducible assumption); rintro e W9 ⟨he, hbz⟩; rw [HG4.out] at he; subst he; go_split_ands; have HB9 := Lib.hid (below_to (show Below V9.heap.size V9 _ by assumption) hbz)))
  go_wp2_with fail
  go_ret
  exact ⟨rfl, below_then' HB8.out HB9.out⟩

theorem numberTexts_c (hsan : San) (a : ByteArray) (n : Int) (hn0 : -9223372036854775808 ≤ n) (hn2 : n ≤ 9223372036854775807) (w : World) (ht : Tabs w) : Calls Tryz.prog 16 #[.string a, .int .i64 n] w fun e w' => e = .returned (.bool true) ∧ Below w.heap.size w w' := by
  obtain ⟨sa, ha⟩ : ∃ s, SB3 s a := ⟨_, rfl⟩
  cases sa
  · exact texts_long hsan a n w ht hn0 hn2 ha
  · obtain ⟨va, h1⟩ := vb_ex a
    cases va
    · exact texts_bad hsan a n w ht hn0 hn2 ha h1
    · obtain ⟨x, hx⟩ := h1.1 rfl
      by_cases h0 : x < -9223372036854775808
      · exact texts_low hsan a n w ht hn0 hn2 x h0 ha hx
      · by_cases h2 : 9223372036854775807 < x
        · exact texts_high hsan a n w ht hn0 hn2 x h2 ha hx
        · exact texts_in hsan a n w ht hn0 hn2 x (by omega) (by omega) ha hx

end Go.Proofs.YtbjgpbdkofadiaaGreatDoor
