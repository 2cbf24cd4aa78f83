/- Integers of any size: negative, signum, text. -/
import Derived.Test.YtbjgpbdkofadiaaGreatDoorWhole2
import Derived.Test.YtbjgpbdkofadiaaGreatDoorStr
namespace Go.Proofs.YtbjgpbdkofadiaaGreatDoor
set_option linter.unusedVariables false
set_option linter.unusedSimpArgs false
open Go.RowKit
attribute [local go_sem] max2_int min2_int max_two min_two

theorem neg_sign (x : Int) : (!decide (x < 0) && decide (0 < x.natAbs)) = decide (-x < 0) := by
  rcases Int.lt_trichotomy x 0 with h | h | h
  · rw [decide_eq_true h, decide_eq_false (by omega : ¬ -x < 0)]; rfl
  · subst h; rfl
  · rw [decide_eq_false (by omega : ¬ x < 0), decide_eq_true (by omega : -x < 0), decide_eq_true (by omega : 0 < x.natAbs)]; rfl

set_option maxHeartbeats 2000000 in
theorem negN_c (k : Nat) (v1 : Value) (x : Int) (w : World) (h1 : WhN k w v1 x) : Calls Tryz.prog 94 #[v1] w fun e w' => ∃ v, e = .returned v ∧ WhN k w' v (-x) ∧ Below w.heap.size w w' := by
  obtain ⟨p, rfl, hp, hk⟩ := h1
  have HKB := Lib.hid hk
  clear hk
  have HP := Lib.hid hp
  obtain ⟨A, n, c, rfl⟩ := hp.form
  clear hp
  generalize hbx : decide (x < 0) = bx at *
  have HBX := Lib.hid hbx
  clear hbx
  go_enter Tryz.func94, Tryz.ntmps94
  go_wp2_with fail
  obtain ⟨W, hW, k0, k1, f0, f1, hbel, hsz⟩ := boxes2 w #[.bool bx, .slice A n c] #[.bool false, .slice none 0 0] 72 72
  rw [hW]
  have c00 := k0 0; have c01 := k0 1; have c10 := k1 0; have c11 := k1 1; have f10 := f1 0; have f11 := f1 1
  simp at c00 c01 c10 c11
  clear k0 k1 f0 f1 hW
  go_wp2_with (go_at_call 60; refine (made_c _ _ x.natAbs _ (HP.out.below hbel.to)).mono ?_; rintro e W2 ⟨rfl, hbz⟩; have d10 := keep_cell hbz c10; have d11 := keep_cell hbz c11; have g10 := keep_free' hbz c10 f10; have g11 := keep_free' hbz c11 f11; have HB := Lib.hid (hbel.call hbz); clear hbz)
  refine bodyPost_ret (v := .agg #[.bool (!bx && decide (0 < x.natAbs)), .slice A n c]) (by simp [results, Tryz.results94, go_sem, d10, d11]) rfl ?_
  have hB : ∀ b v, Below w.heap.size w ((W2.setCell ⟨w.heap.size + 1, 0, none⟩ b).setCell ⟨w.heap.size + 1, 1, none⟩ v) := fun b v => ((HB.out.set (a := ⟨w.heap.size + 1, 0, none⟩) b (by simp)).set (a := ⟨w.heap.size + 1, 1, none⟩) v (by simp)).to
  exact ⟨_, rfl, ⟨_, by rw [show (!bx && decide (0 < x.natAbs)) = decide (-x < 0) from by rw [← HBX.out]; exact neg_sign x], by rw [Int.natAbs_neg]; exact HP.out.below (hB _ _), HKB.out⟩, hB _ _⟩

theorem Wh.zero {w : World} {v : Value} {z : Int} (h : Wh w v z) : WhN 0 w v z := by
  obtain ⟨p, e, hp⟩ := h
  exact ⟨p, e, hp, fun _ _ => Nat.zero_le _⟩
theorem negative_c (v1 : Value) (x : Int) (w : World) (h1 : Wh w v1 x) : Calls Tryz.prog 94 #[v1] w (WhP (-x) w) := by
  refine (negN_c 0 v1 x w h1.zero).mono ?_
  rintro e w' ⟨v, rfl, h, hb⟩
  exact ⟨v, rfl, h.wh, hb⟩

set_option maxHeartbeats 2000000 in
theorem signum_c (v1 : Value) (x : Int) (w : World) (h1 : Wh w v1 x) (hl : (dg 1000000000 x.natAbs).length ≤ 1000000) : Calls Tryz.prog 98 #[v1] w fun e w' => e = .returned (.int .i64 (sgn x)) ∧ Below w.heap.size w w' := by
  obtain ⟨p, rfl, hp⟩ := h1
  have hz : (dg 1000000000 x.natAbs).length = 0 ↔ x = 0 := by rw [List.length_eq_zero_iff, dg_eq_nil (by decide)]; omega
  obtain ⟨A, c, rfl, hlc, hcm, hr⟩ := hp
  clear hr
  by_cases h : x < 0
  · have hd : decide (x < 0) = true := by simp [h]
    rw [hd]
    go_enter Tryz.func98, Tryz.ntmps98
    go_wp2_with fail
    go_ret
    exact ⟨by rw [sgn_lt h]; rfl, (by repeat (first | exact Below.refl _ _ | exact HB.out | (refine Below.alloc ?_ (by first | (simp; done) | (simp; omega)) _) | (refine Below.setCell ?_ (by first | (simp; done) | (simp; omega)) _) | refine Below.drew ?_ | refine below_drewN ?_ _))⟩
  · have hd : decide (x < 0) = false := by simp [h]
    rw [hd]
    have HZ := Lib.hid hz
    generalize (dg 1000000000 x.natAbs).length = L at *
    clear hz hd
    go_enter Tryz.func98, Tryz.ntmps98
    go_wp2_with (go_at_call 120; refine (sign_c _ _).mono ?_; rintro e w' ⟨rfl, rfl⟩)
    go_ret
    refine ⟨?_, (by repeat (first | exact Below.refl _ _ | exact HB.out | (refine Below.alloc ?_ (by first | (simp; done) | (simp; omega)) _) | (refine Below.setCell ?_ (by first | (simp; done) | (simp; omega)) _) | refine Below.drew ?_ | refine below_drewN ?_ _))⟩
    rcases Nat.eq_zero_or_pos L with h0 | h0
    · rw [HZ.out.1 h0, h0]; rfl
    · have : x ≠ 0 := fun e => by have := HZ.out.2 e; omega
      rw [sgn_gt (by omega), sgn_gt (by omega)]; rfl

/-- What a failure's panic carries. -/
def failChain (k : Int) : List PanicEntry := [{ v := .iface 77 (.agg #[.int .i64 k]), recovered := false }]

theorem nDigits_le {u k : Nat} (hk : 0 < k) : Lib.nDigits u ≤ k ↔ u < 10 ^ k := by
  constructor
  · intro h
    exact Nat.lt_of_lt_of_le (Lib.lt_pow_nDigits u) (Nat.pow_le_pow_right (by decide) h)
  · intro h
    rcases Nat.lt_or_ge k (Lib.nDigits u) with h' | h'
    · exfalso
      have key : ∀ k u, k < Lib.nDigits u → 0 < k → 10 ^ k ≤ u := by
        intro k
        induction k with
        | zero => intro u _ h; omega
        | succ k ih =>
          intro u h _
          by_cases hu : u < 10
          · rw [Lib.nDigits_small hu] at h; omega
          · rw [Lib.nDigits_big hu] at h
            rcases Nat.eq_zero_or_pos k with rfl | hk
            · simpa using (by omega : 10 ≤ u)
            · have := ih (u / 10) (by omega) hk
              rw [Nat.pow_succ]; omega
      have := key k u h' hk
      omega
    · exact h'

/-- How text ends. -/
def textEnd (x : Int) : Ending := if x.natAbs < 10 ^ 200 then .returned (.string ⟨(Lib.itoa x).toArray⟩) else .panicked (failChain 3)

set_option maxHeartbeats 2000000 in
theorem text_c (v1 : Value) (x : Int) (w : World) (h1 : Wh w v1 x) (ht : Tabs w) (hl : (dg 1000000000 x.natAbs).length ≤ 1000000) : Calls Tryz.prog 58 #[v1] w fun e w' => e = textEnd x ∧ Below w.heap.size w w' := by
  obtain ⟨p, rfl, hp⟩ := h1
  have HP := Lib.hid hp
  obtain ⟨A, n, c, rfl⟩ := hp.form
  have HT := Lib.hid ht
  clear hp ht
  obtain ⟨S, hS⟩ : ∃ S : ByteArray, ⟨(Lib.decDigits x.natAbs).toArray⟩ = S := ⟨_, rfl⟩
  have hss : S.size = (Lib.decDigits x.natAbs).length := by rw [← hS]; simp [ByteArray.size]
  have HSS := Lib.hid hS
  have HL := Lib.hid hl
  have hbig : x.natAbs < 10 ^ 200 ↔ ¬ 200 < S.size := by rw [hss, Lib.decDigits_length, Nat.not_lt]; exact (nDigits_le (by decide)).symm
  unfold textEnd
  clear hss hl
  by_cases h2 : 200 < S.size
  · rw [if_neg (fun h => hbig.1 h h2)]
    generalize hbx : decide (x < 0) = bx at *
    have HBX := Lib.hid hbx
    clear hbx hbig hS
    go_enter Tryz.func58, Tryz.ntmps58
    go_wp2_with fail
    obtain ⟨W, hW, k0, f0, hbel, hsz⟩ := boxes1 w #[.bool bx, .slice A n c] 72
    rw [hW]
    have c00 := k0 0; have c01 := k0 1
    simp at c00 c01
    clear k0 f0 hW
    go_wp2_with (go_at_call 74; refine (string_c _ x.natAbs _ (HP.out.below hbel.to) (HT.out.below hbel.to) HL.out).mono ?_; rintro e W2 ⟨rfl, hbz⟩; rw [HSS.out]; have d00 := keep_cell hbz c00; have HB := Lib.hid (hbel.call hbz); clear hbz)
    exact ⟨rfl, rfl, HB.out.to⟩
  · rw [if_pos (hbig.2 h2)]
    have HEQ : Hid ((⟨(Lib.itoa x).toArray⟩ : ByteArray) = if x < 0 then ⟨#[45]⟩ ++ S else S) := by
      show _ = _
      rw [← hS]
      by_cases hx : x < 0
      · rw [if_pos hx]
        apply ByteArray.ext
        rw [ByteArray.data_append]
        simp [Lib.itoa, hx]
      · rw [if_neg hx]; simp only [Lib.itoa, if_neg hx]; congr 3; omega
    by_cases hx : x < 0
    · have hd : decide (x < 0) = true := by simp [hx]
      rw [hd]
      rw [if_pos hx] at HEQ
      rw [HEQ.out]
      clear hbig hS hd hx HEQ
      go_enter Tryz.func58, Tryz.ntmps58
      go_wp2_with fail
      obtain ⟨W, hW, k0, f0, hbel, hsz⟩ := boxes1 w #[.bool true, .slice A n c] 72
      rw [hW]
      have c00 := k0 0; have c01 := k0 1
      simp at c00 c01
      clear k0 f0 hW
      go_wp2_with (go_at_call 74; refine (string_c _ x.natAbs _ (HP.out.below hbel.to) (HT.out.below hbel.to) HL.out).mono ?_; rintro e W2 ⟨rfl, hbz⟩; rw [HSS.out]; have d00 := keep_cell hbz c00; have HB := Lib.hid (hbel.call hbz); clear hbz)
      go_ret
      exact ⟨rfl, HB.out.to⟩
    · have hd : decide (x < 0) = false := by simp [hx]
      rw [hd]
      rw [if_neg hx] at HEQ
      rw [HEQ.out]
      clear hbig hS hd hx HEQ
      go_enter Tryz.func58, Tryz.ntmps58
      go_wp2_with fail
      obtain ⟨W, hW, k0, f0, hbel, hsz⟩ := boxes1 w #[.bool false, .slice A n c] 72
      rw [hW]
      have c00 := k0 0; have c01 := k0 1
      simp at c00 c01
      clear k0 f0 hW
      go_wp2_with (go_at_call 74; refine (string_c _ x.natAbs _ (HP.out.below hbel.to) (HT.out.below hbel.to) HL.out).mono ?_; rintro e W2 ⟨rfl, hbz⟩; rw [HSS.out]; have d00 := keep_cell hbz c00; have HB := Lib.hid (hbel.call hbz); clear hbz)
      go_ret
      exact ⟨rfl, HB.out.to⟩

end Go.Proofs.YtbjgpbdkofadiaaGreatDoor
