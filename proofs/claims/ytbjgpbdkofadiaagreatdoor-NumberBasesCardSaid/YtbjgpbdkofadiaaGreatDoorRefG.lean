/- The reference's Valid. -/
import Derived.Test.YtbjgpbdkofadiaaGreatDoorRefF
namespace Go.Proofs.YtbjgpbdkofadiaaGreatDoor
set_option linter.unusedVariables false
set_option linter.unusedSimpArgs false
open Go.RowKit Go.Shelf

/-- What the reference asks of the digits. -/
def tailOk (d : List UInt8) : Prop := d ≠ [] ∧ d.length ≤ 200 ∧ ¬ (d.head? = some 48 ∧ 1 < d.length) ∧ ∀ b ∈ d, isDig b
theorem tail_plain {l : List UInt8} (h : l.head? ≠ some 45) : tailOk l ↔ ∃ z, NumL l z := by
  rw [← valid_iff, trim_other h]
  unfold tailOk validD
  refine and_congr_right fun h1 => and_congr_right fun h2 => and_congr_left fun _ => not_congr (and_congr_right fun h3 => ?_)
  cases l with
  | nil => exact absurd rfl h1
  | cons a t =>
    simp at h3
    subst h3
    cases t <;> simp
theorem tail_minus {d : List UInt8} (h : d ≠ [48]) : tailOk d ↔ ∃ z, NumL (45 :: d) z := by
  rw [← valid_iff, trim_minus]
  unfold tailOk validD
  refine and_congr_right fun h1 => and_congr_right fun h2 => and_congr_left fun _ => not_congr (and_congr_right fun h3 => ?_)
  cases d with
  | nil => exact absurd rfl h1
  | cons a t =>
    simp at h3
    subst h3
    cases t with
    | nil => exact absurd rfl h
    | cons b t => simp
theorem u8_ne45 {b : UInt8} (h : b ≠ 45) : ((b.toNat : Int) == 45) = false := by
  rw [beq_eq_false_iff_ne]
  intro e
  have e' : b.toNat = 45 := by omega
  exact h (UInt8.toNat_inj.1 (by rw [e']; rfl))
theorem minus_zero : ¬ ∃ z, NumL [45, 48] z := by
  rw [← valid_iff]
  intro h
  exact h.2.2.1 ⟨by decide, by decide⟩

set_option maxRecDepth 100000 in
set_option maxHeartbeats 4000000 in
theorem rvalid_c (S : ByteArray) (w : World) : Calls Tryz.prog 21 #[.string S] w fun e w' => (∃ b, e = .returned (.bool b) ∧ (b = true ↔ ∃ z, NumL S.data.toList z)) ∧ Below w.heap.size w w' := by
  by_cases hm : ∃ h0 : 0 < S.size, S[0] = 45
  · obtain ⟨h0, hm⟩ := hm
    obtain ⟨D, hD⟩ : ∃ D, S.extract 1 S.size = D := ⟨_, rfl⟩
    have hS : S.data.toList = 45 :: D.data.toList := by
      rw [← hD, ByteArray.data_extract, Array.toList_extract]
      have hl : 0 < S.data.toList.length := by rw [Array.length_toList]; exact h0
      obtain ⟨a, t, e⟩ : ∃ a t, S.data.toList = a :: t := by
        cases e : S.data.toList with
        | nil => rw [e] at hl; simp at hl
        | cons a t => exact ⟨a, t, rfl⟩
      have ha : a = 45 := by
        rw [← hm]
        have : S.data.toList[0]'hl = a := by simp [e]
        rw [← this]; rfl
      have hsz : S.size = (a :: t).length := by rw [← e, Array.length_toList]; rfl
      rw [hsz, e, ha]
      simp [List.extract]
    have hmn : ((S[0].toNat : Int) == 45) = true := by rw [hm]; rfl
    by_cases hd : D.data.toList = [48]
    · have HNO : Hid (¬ ∃ z, NumL S.data.toList z) := by show ¬ _; rw [hS, hd]; exact minus_zero
      have hdb : (D.toList == [48]) = true := by rw [ByteArray.toList_eq, hd]; rfl
      go_enter Tryz.func21, Tryz.ntmps21
      go_wp2_with fail
      go_ret
      exact ⟨⟨_, rfl, ⟨fun h => by simp at h, fun h => absurd h HNO.out⟩⟩, Below.refl _ _⟩
    · have HI : Hid (tailOk D.data.toList ↔ ∃ z, NumL S.data.toList z) := by show _ ↔ _; rw [hS]; exact tail_minus hd
      have hdb : (D.toList == [48]) = false := by rw [ByteArray.toList_eq, beq_eq_false_iff_ne]; exact hd
      have hD2 := hD
      clear hS hd hD
      by_cases hp : 0 < D.size
      · have HNE : Hid (D.data.toList ≠ []) := fun e => by have := congrArg List.length e; rw [Array.length_toList] at this; have h' : D.size = 0 := this; omega
        have hd1 : decide ((D.size : Int) < 1) = false := decide_eq_false (by omega)
        have hhd : D.data.toList.head? = some D[0] := by
          rw [List.head?_eq_getElem?, List.getElem?_eq_getElem (by rw [Array.length_toList]; exact hp)]
          rfl
        by_cases hb : 200 < D.size
        · have HNO : Hid (¬ ∃ z, NumL S.data.toList z) := fun h => by have h2 := (HI.out.2 h).2.1; rw [Array.length_toList] at h2; have h3 : D.size ≤ 200 := h2; omega
          have hd2 : decide (200 < (D.size : Int)) = true := decide_eq_true (by omega)
          go_enter Tryz.func21, Tryz.ntmps21
          go_wp2_with fail
          go_ret
          exact ⟨⟨_, rfl, ⟨fun h => by simp at h, fun h => absurd h HNO.out⟩⟩, Below.refl _ _⟩
        · have HLE : Hid (D.data.toList.length ≤ 200) := by show _ ≤ _; rw [Array.length_toList]; exact Nat.le_of_not_lt hb
          have hd2 : decide (200 < (D.size : Int)) = false := decide_eq_false (by omega)
          by_cases hz : D[0] = 48
          · have hz1 : ((D[0].toNat : Int) == 48) = true := by rw [hz]; rfl
            by_cases h1 : 1 < D.size
            · have HNO : Hid (¬ ∃ z, NumL S.data.toList z) := fun h => (HI.out.2 h).2.2.1 ⟨by rw [hhd, hz], by rw [Array.length_toList]; exact h1⟩
              have hd3 : decide (1 < (D.size : Int)) = true := decide_eq_true (by omega)
              go_enter Tryz.func21, Tryz.ntmps21
              go_wp2_with fail
              go_ret
              exact ⟨⟨_, rfl, ⟨fun h => by simp at h, fun h => absurd h HNO.out⟩⟩, Below.refl _ _⟩
            · have HNZ : Hid (¬ (D.data.toList.head? = some 48 ∧ 1 < D.data.toList.length)) := fun h => by have h2 := h.2; rw [Array.length_toList] at h2; exact h1 h2
              have hd3 : decide (1 < (D.size : Int)) = false := decide_eq_false (by omega)
              clear hhd
              go_enter Tryz.func21, Tryz.ntmps21
              go_wp2_with fail
              go_loopg [3] D.size (fun g i wr => ∃ k : Nat, i = .int .i64 k ∧ k + g = D.size ∧ Hid (∀ j (h : j < D.size), j < k → isDig D[j]) ∧ wr = w)
              case atStart => exact ⟨0, rfl, by omega, fun j h hj => absurd hj (Nat.not_lt_zero _), rfl⟩
              case round =>
                obtain ⟨k, rfl, hg, HD, rfl⟩ := hrel
                by_cases hk : k < D.size
                · obtain ⟨g, rfl⟩ : ∃ g, gk = g + 1 := ⟨gk - 1, by omega⟩
                  by_cases h1 : D[k].toNat < 48
                  · have HNO : Hid (¬ ∃ z, NumL S.data.toList z) := fun h => by
                      have hd := (HI.out.2 h).2.2.2 _ (Array.getElem_mem_toList (xs := D.data) (i := k) hk)
                      have := hd.1
                      exact absurd this (Nat.not_le.2 h1)
                    have hb1 : decide ((D[k].toNat : Int) < 48) = true := decide_eq_true (by omega)
                    go_wp2_with fail
                    go_ret
                    exact ⟨⟨_, rfl, ⟨fun h => by simp at h, fun h => absurd h HNO.out⟩⟩, Below.refl _ _⟩
                  · have hb1 : decide ((D[k].toNat : Int) < 48) = false := decide_eq_false (by omega)
                    by_cases h2 : 57 < D[k].toNat
                    · have HNO : Hid (¬ ∃ z, NumL S.data.toList z) := fun h => by
                        have hd := (HI.out.2 h).2.2.2 _ (Array.getElem_mem_toList (xs := D.data) (i := k) hk)
                        have := hd.2
                        exact absurd this (Nat.not_le.2 h2)
                      have hb2 : decide (57 < (D[k].toNat : Int)) = true := decide_eq_true (by omega)
                      go_wp2_with fail
                      go_ret
                      exact ⟨⟨_, rfl, ⟨fun h => by simp at h, fun h => absurd h HNO.out⟩⟩, Below.refl _ _⟩
                    · have hb2 : decide (57 < (D[k].toNat : Int)) = false := decide_eq_false (by omega)
                      have HDK : Hid (isDig D[k]) := ⟨by omega, by omega⟩
                      go_wp2_with fail
                      go_roundg g
                      case measure => omega
                      case rel =>
                        refine ⟨k + 1, rfl, by omega, fun j h hj => ?_, rfl⟩
                        by_cases e : j = k
                        · subst e; exact HDK.out
                        · exact HD.out j h (by omega)
                · have HY : Hid (∃ z, NumL S.data.toList z) := HI.out.1 ⟨HNE.out, HLE.out, HNZ.out, fun b hb => by
                    obtain ⟨j, hj, e⟩ := List.getElem_of_mem hb
                    have hj' : j < D.size := by simpa using hj
                    have := HD.out j hj' (by omega)
                    rw [← e]; exact this⟩
                  obtain rfl : gk = 0 := by omega
                  go_wp2_with fail
                  go_ret
                  exact ⟨⟨_, rfl, ⟨fun _ => HY.out, fun _ => rfl⟩⟩, Below.refl _ _⟩
          · have hz1 : ((D[0].toNat : Int) == 48) = false := by
              rw [beq_eq_false_iff_ne]; intro e; exact hz (UInt8.toNat_inj.1 (by have e' : D[0].toNat = 48 := by omega
                                                                                 rw [e']; rfl))
            have HNZ : Hid (¬ (D.data.toList.head? = some 48 ∧ 1 < D.data.toList.length)) := fun h => by have h2 := h.1; rw [hhd] at h2; exact hz (Option.some.inj h2)
            clear hhd
            go_enter Tryz.func21, Tryz.ntmps21
            go_wp2_with fail
            go_loopg [3] D.size (fun g i wr => ∃ k : Nat, i = .int .i64 k ∧ k + g = D.size ∧ Hid (∀ j (h : j < D.size), j < k → isDig D[j]) ∧ wr = w)
            case atStart => exact ⟨0, rfl, by omega, fun j h hj => absurd hj (Nat.not_lt_zero _), rfl⟩
            case round =>
              obtain ⟨k, rfl, hg, HD, rfl⟩ := hrel
              by_cases hk : k < D.size
              · obtain ⟨g, rfl⟩ : ∃ g, gk = g + 1 := ⟨gk - 1, by omega⟩
                by_cases h1 : D[k].toNat < 48
                · have HNO : Hid (¬ ∃ z, NumL S.data.toList z) := fun h => by
                    have hd := (HI.out.2 h).2.2.2 _ (Array.getElem_mem_toList (xs := D.data) (i := k) hk)
                    have := hd.1
                    exact absurd this (Nat.not_le.2 h1)
                  have hb1 : decide ((D[k].toNat : Int) < 48) = true := decide_eq_true (by omega)
                  go_wp2_with fail
                  go_ret
                  exact ⟨⟨_, rfl, ⟨fun h => by simp at h, fun h => absurd h HNO.out⟩⟩, Below.refl _ _⟩
                · have hb1 : decide ((D[k].toNat : Int) < 48) = false := decide_eq_false (by omega)
                  by_cases h2 : 57 < D[k].toNat
                  · have HNO : Hid (¬ ∃ z, NumL S.data.toList z) := fun h => by
                      have hd := (HI.out.2 h).2.2.2 _ (Array.getElem_mem_toList (xs := D.data) (i := k) hk)
                      have := hd.2
                      exact absurd this (Nat.not_le.2 h2)
                    have hb2 : decide (57 < (D[k].toNat : Int)) = true := decide_eq_true (by omega)
                    go_wp2_with fail
                    go_ret
                    exact ⟨⟨_, rfl, ⟨fun h => by simp at h, fun h => absurd h HNO.out⟩⟩, Below.refl _ _⟩
                  · have hb2 : decide (57 < (D[k].toNat : Int)) = false := decide_eq_false (by omega)
                    have HDK : Hid (isDig D[k]) := ⟨by omega, by omega⟩
                    go_wp2_with fail
                    go_roundg g
                    case measure => omega
                    case rel =>
                      refine ⟨k + 1, rfl, by omega, fun j h hj => ?_, rfl⟩
                      by_cases e : j = k
                      · subst e; exact HDK.out
                      · exact HD.out j h (by omega)
              · have HY : Hid (∃ z, NumL S.data.toList z) := HI.out.1 ⟨HNE.out, HLE.out, HNZ.out, fun b hb => by
                  obtain ⟨j, hj, e⟩ := List.getElem_of_mem hb
                  have hj' : j < D.size := by simpa using hj
                  have := HD.out j hj' (by omega)
                  rw [← e]; exact this⟩
                obtain rfl : gk = 0 := by omega
                go_wp2_with fail
                go_ret
                exact ⟨⟨_, rfl, ⟨fun _ => HY.out, fun _ => rfl⟩⟩, Below.refl _ _⟩
      · have HNO : Hid (¬ ∃ z, NumL S.data.toList z) := fun h => (HI.out.2 h).1 (List.eq_nil_of_length_eq_zero (by rw [Array.length_toList]; show D.size = 0; omega))
        have hd1 : decide ((D.size : Int) < 1) = true := decide_eq_true (by omega)
        go_enter Tryz.func21, Tryz.ntmps21
        go_wp2_with fail
        go_ret
        exact ⟨⟨_, rfl, ⟨fun h => by simp at h, fun h => absurd h HNO.out⟩⟩, Below.refl _ _⟩
  · have HI : Hid (tailOk S.data.toList ↔ ∃ z, NumL S.data.toList z) := tail_plain fun h => hm (by
      cases hs : S.data.toList with
      | nil => rw [hs] at h; simp at h
      | cons a t =>
        rw [hs] at h
        have hl : 0 < S.data.toList.length := by rw [hs]; simp
        have hl' : 0 < S.size := by rw [Array.length_toList] at hl; exact hl
        refine ⟨hl', ?_⟩
        have : S.data.toList[0]'hl = a := by simp [hs]
        have h3 : a = 45 := by simpa using h
        rw [← h3, ← this]; rfl)
    by_cases hp : 0 < S.size
    · have HNE : Hid (S.data.toList ≠ []) := fun e => by have := congrArg List.length e; rw [Array.length_toList] at this; have h' : S.size = 0 := this; omega
      have hd1 : decide ((S.size : Int) < 1) = false := decide_eq_false (by omega)
      have hhd : S.data.toList.head? = some S[0] := by
        rw [List.head?_eq_getElem?, List.getElem?_eq_getElem (by rw [Array.length_toList]; exact hp)]
        rfl
      have hmn : ((S[0].toNat : Int) == 45) = false := u8_ne45 fun e => hm ⟨hp, e⟩
      by_cases hb : 200 < S.size
      · have HNO : Hid (¬ ∃ z, NumL S.data.toList z) := fun h => by have h2 := (HI.out.2 h).2.1; rw [Array.length_toList] at h2; have h3 : S.size ≤ 200 := h2; omega
        have hd2 : decide (200 < (S.size : Int)) = true := decide_eq_true (by omega)
        go_enter Tryz.func21, Tryz.ntmps21
        go_wp2_with fail
        go_ret
        exact ⟨⟨_, rfl, ⟨fun h => by simp at h, fun h => absurd h HNO.out⟩⟩, Below.refl _ _⟩
      · have HLE : Hid (S.data.toList.length ≤ 200) := by show _ ≤ _; rw [Array.length_toList]; exact Nat.le_of_not_lt hb
        have hd2 : decide (200 < (S.size : Int)) = false := decide_eq_false (by omega)
        by_cases hz : S[0] = 48
        · have hz1 : ((S[0].toNat : Int) == 48) = true := by rw [hz]; rfl
          by_cases h1 : 1 < S.size
          · have HNO : Hid (¬ ∃ z, NumL S.data.toList z) := fun h => (HI.out.2 h).2.2.1 ⟨by rw [hhd, hz], by rw [Array.length_toList]; exact h1⟩
            have hd3 : decide (1 < (S.size : Int)) = true := decide_eq_true (by omega)
            go_enter Tryz.func21, Tryz.ntmps21
            go_wp2_with fail
            go_ret
            exact ⟨⟨_, rfl, ⟨fun h => by simp at h, fun h => absurd h HNO.out⟩⟩, Below.refl _ _⟩
          · have HNZ : Hid (¬ (S.data.toList.head? = some 48 ∧ 1 < S.data.toList.length)) := fun h => by have h2 := h.2; rw [Array.length_toList] at h2; exact h1 h2
            have hd3 : decide (1 < (S.size : Int)) = false := decide_eq_false (by omega)
            clear hhd
            go_enter Tryz.func21, Tryz.ntmps21
            go_wp2_with fail
            go_loopg [3] S.size (fun g i wr => ∃ k : Nat, i = .int .i64 k ∧ k + g = S.size ∧ Hid (∀ j (h : j < S.size), j < k → isDig S[j]) ∧ wr = w)
            case atStart => exact ⟨0, rfl, by omega, fun j h hj => absurd hj (Nat.not_lt_zero _), rfl⟩
            case round =>
              obtain ⟨k, rfl, hg, HD, rfl⟩ := hrel
              by_cases hk : k < S.size
              · obtain ⟨g, rfl⟩ : ∃ g, gk = g + 1 := ⟨gk - 1, by omega⟩
                by_cases h1 : S[k].toNat < 48
                · have HNO : Hid (¬ ∃ z, NumL S.data.toList z) := fun h => by
                    have hd := (HI.out.2 h).2.2.2 _ (Array.getElem_mem_toList (xs := S.data) (i := k) hk)
                    have := hd.1
                    exact absurd this (Nat.not_le.2 h1)
                  have hb1 : decide ((S[k].toNat : Int) < 48) = true := decide_eq_true (by omega)
                  go_wp2_with fail
                  go_ret
                  exact ⟨⟨_, rfl, ⟨fun h => by simp at h, fun h => absurd h HNO.out⟩⟩, Below.refl _ _⟩
                · have hb1 : decide ((S[k].toNat : Int) < 48) = false := decide_eq_false (by omega)
                  by_cases h2 : 57 < S[k].toNat
                  · have HNO : Hid (¬ ∃ z, NumL S.data.toList z) := fun h => by
                      have hd := (HI.out.2 h).2.2.2 _ (Array.getElem_mem_toList (xs := S.data) (i := k) hk)
                      have := hd.2
                      exact absurd this (Nat.not_le.2 h2)
                    have hb2 : decide (57 < (S[k].toNat : Int)) = true := decide_eq_true (by omega)
                    go_wp2_with fail
                    go_ret
                    exact ⟨⟨_, rfl, ⟨fun h => by simp at h, fun h => absurd h HNO.out⟩⟩, Below.refl _ _⟩
                  · have hb2 : decide (57 < (S[k].toNat : Int)) = false := decide_eq_false (by omega)
                    have HDK : Hid (isDig S[k]) := ⟨by omega, by omega⟩
                    go_wp2_with fail
                    go_roundg g
                    case measure => omega
                    case rel =>
                      refine ⟨k + 1, rfl, by omega, fun j h hj => ?_, rfl⟩
                      by_cases e : j = k
                      · subst e; exact HDK.out
                      · exact HD.out j h (by omega)
              · have HY : Hid (∃ z, NumL S.data.toList z) := HI.out.1 ⟨HNE.out, HLE.out, HNZ.out, fun b hb => by
                  obtain ⟨j, hj, e⟩ := List.getElem_of_mem hb
                  have hj' : j < S.size := by simpa using hj
                  have := HD.out j hj' (by omega)
                  rw [← e]; exact this⟩
                obtain rfl : gk = 0 := by omega
                go_wp2_with fail
                go_ret
                exact ⟨⟨_, rfl, ⟨fun _ => HY.out, fun _ => rfl⟩⟩, Below.refl _ _⟩
        · have hz1 : ((S[0].toNat : Int) == 48) = false := by
            rw [beq_eq_false_iff_ne]; intro e; exact hz (UInt8.toNat_inj.1 (by have e' : S[0].toNat = 48 := by omega
                                                                               rw [e']; rfl))
          have HNZ : Hid (¬ (S.data.toList.head? = some 48 ∧ 1 < S.data.toList.length)) := fun h => by have h2 := h.1; rw [hhd] at h2; exact hz (Option.some.inj h2)
          clear hhd
          go_enter Tryz.func21, Tryz.ntmps21
          go_wp2_with fail
          go_loopg [3] S.size (fun g i wr => ∃ k : Nat, i = .int .i64 k ∧ k + g = S.size ∧ Hid (∀ j (h : j < S.size), j < k → isDig S[j]) ∧ wr = w)
          case atStart => exact ⟨0, rfl, by omega, fun j h hj => absurd hj (Nat.not_lt_zero _), rfl⟩
          case round =>
            obtain ⟨k, rfl, hg, HD, rfl⟩ := hrel
            by_cases hk : k < S.size
            · obtain ⟨g, rfl⟩ : ∃ g, gk = g + 1 := ⟨gk - 1, by omega⟩
              by_cases h1 : S[k].toNat < 48
              · have HNO : Hid (¬ ∃ z, NumL S.data.toList z) := fun h => by
                  have hd := (HI.out.2 h).2.2.2 _ (Array.getElem_mem_toList (xs := S.data) (i := k) hk)
                  have := hd.1
                  exact absurd this (Nat.not_le.2 h1)
                have hb1 : decide ((S[k].toNat : Int) < 48) = true := decide_eq_true (by omega)
                go_wp2_with fail
                go_ret
                exact ⟨⟨_, rfl, ⟨fun h => by simp at h, fun h => absurd h HNO.out⟩⟩, Below.refl _ _⟩
              · have hb1 : decide ((S[k].toNat : Int) < 48) = false := decide_eq_false (by omega)
                by_cases h2 : 57 < S[k].toNat
                · have HNO : Hid (¬ ∃ z, NumL S.data.toList z) := fun h => by
                    have hd := (HI.out.2 h).2.2.2 _ (Array.getElem_mem_toList (xs := S.data) (i := k) hk)
                    have := hd.2
                    exact absurd this (Nat.not_le.2 h2)
                  have hb2 : decide (57 < (S[k].toNat : Int)) = true := decide_eq_true (by omega)
                  go_wp2_with fail
                  go_ret
                  exact ⟨⟨_, rfl, ⟨fun h => by simp at h, fun h => absurd h HNO.out⟩⟩, Below.refl _ _⟩
                · have hb2 : decide (57 < (S[k].toNat : Int)) = false := decide_eq_false (by omega)
                  have HDK : Hid (isDig S[k]) := ⟨by omega, by omega⟩
                  go_wp2_with fail
                  go_roundg g
                  case measure => omega
                  case rel =>
                    refine ⟨k + 1, rfl, by omega, fun j h hj => ?_, rfl⟩
                    by_cases e : j = k
                    · subst e; exact HDK.out
                    · exact HD.out j h (by omega)
            · have HY : Hid (∃ z, NumL S.data.toList z) := HI.out.1 ⟨HNE.out, HLE.out, HNZ.out, fun b hb => by
                obtain ⟨j, hj, e⟩ := List.getElem_of_mem hb
                have hj' : j < S.size := by simpa using hj
                have := HD.out j hj' (by omega)
                rw [← e]; exact this⟩
              obtain rfl : gk = 0 := by omega
              go_wp2_with fail
              go_ret
              exact ⟨⟨_, rfl, ⟨fun _ => HY.out, fun _ => rfl⟩⟩, Below.refl _ _⟩
    · have HNO : Hid (¬ ∃ z, NumL S.data.toList z) := fun h => (HI.out.2 h).1 (List.eq_nil_of_length_eq_zero (by rw [Array.length_toList]; show S.size = 0; omega))
      have hd1 : decide ((S.size : Int) < 1) = true := decide_eq_true (by omega)
      go_enter Tryz.func21, Tryz.ntmps21
      go_wp2_with fail
      go_ret
      exact ⟨⟨_, rfl, ⟨fun h => by simp at h, fun h => absurd h HNO.out⟩⟩, Below.refl _ _⟩
end Go.Proofs.YtbjgpbdkofadiaaGreatDoor
