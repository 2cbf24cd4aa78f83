/- Package real: the digits of a root. -/
import Derived.Test.YtekbfommnmikbaaGreatDoorRealM
import Derived.Test.YtekbfommnmikbaaGreatDoorRoot
namespace Go.Proofs.YtekbfommnmikbaaGreatDoor
set_option linter.unusedVariables false
set_option linter.unusedSimpArgs false
open Go.RowKit Go.Shelf
attribute [local go_sem] Oper.semAt_some

theorem rs_next {ds : List Int} {k R S T D : Nat} (hR : (rs ds k).1 = R) (hS : (rs ds k).2 = S) (hT : S * 100 + pairAt ds k = T) (hD : down R T 9 = D) : (rs ds (k + 1)).1 = 10 * R + D ∧ (rs ds (k + 1)).2 = T - (20 * R + D) * D ∧ ritem ds k = ((D : Int), decide (((T - (20 * R + D) * D : Nat) : Int) > 0) || decide ((2 * k + 2 : Int) < (ds.length : Int))) := by
  subst hR hS hT hD
  exact ⟨rfl, rfl, rfl⟩

set_option maxRecDepth 100000 in
set_option maxHeartbeats 4000000 in
theorem rt1_endless (A : Option Addr) (c : Nat) (ds : List Int) (lb L N : Nat) (w : World) (hi : InR 10 ds) (hL : ds.length = L) (hev : L % 2 = 0) (hLc : L ≤ 1000) (hN : N ≤ 14) (hlb : lb < w.heap.size) (hc : w.heap[lb]? = some (.cells #[.slice A L c] 93 (0, 0))) (hr : Row .u8 w A ds) :
    Endless Fence.wide 5 Tryz.prog 219 #[.pointer (some ⟨lb, 0, none⟩)] (ritem ds) w.heap.size lb N w := by
  intro l J Jx W hWb hJN hJs hJg hJy hJ0
  have HY := Lib.hid hJy; have HJN := Lib.hid hJN; have HJG := Lib.hid hJg
  have HI := Lib.hid hi; have HL := Lib.hid hL; have HR := Lib.hid hr; have HC := Lib.hid hc; have HWB := Lib.hid hWb
  clear hJy hJN hJs hJg hWb hc hr hi hL
  refine callsIn_of_wp Tryz.func219 rfl trivial ?_ rfl
  simp only [Tryz.ntmps219, List.size_toArray, List.length_cons, List.length_nil, Nat.reduceAdd, Nat.reduceSub, Array.replicate_succ, Array.replicate_zero, List.push_toArray, List.append_toArray, List.nil_append, List.cons_append]
  gi_wp2_with fail
  gi_loopg [3, 4, 5] N (fun g v3 v4 v5 wr => ∃ k : Nat, v3 = .int .i64 ((rs ds k).1 : Int) ∧ v4 = .int .i64 ((rs ds k).2 : Int) ∧ (∃ j : Nat, v5 = .int .i64 (j : Int) ∧ Hid (j = 2 * k)) ∧ k + g = N ∧ Hid (J k wr) ∧ Hid (Below w.heap.size w wr))
  case atStart => exact ⟨0, rfl, rfl, ⟨0, rfl, rfl⟩, by omega, hJ0, HWB.out⟩
  case round =>
    obtain ⟨k, rfl, rfl, ⟨j, rfl, HJK⟩, hk, HJ, HB⟩ := hrel
    have HK := Lib.hid hk
    have hkN := HJN.out k wr HJ.out
    have hRA := rs_root HI.out k
    have hRl := rs_lt HI.out k
    have hp100 := pairAt_lt HI.out k
    obtain ⟨R, hR⟩ : ∃ R, (rs ds k).1 = R := ⟨_, rfl⟩
    obtain ⟨S, hS⟩ : ∃ S, (rs ds k).2 = S := ⟨_, rfl⟩
    have hNX := fun T D hT hD => rs_next (T := T) (D := D) hR hS hT hD
    rw [hR, hS] at hRA ⊢
    rw [hR] at hRl
    obtain ⟨p, hp⟩ : ∃ p, pairAt ds k = p := ⟨_, rfl⟩
    rw [hp] at hNX hp100
    have HP := Lib.hid hp
    have hR13 : R < 10000000000000 := Nat.lt_of_lt_of_le hRl ((show 10 ^ k ≤ 10 ^ 13 from Nat.pow_le_pow_right (by decide) (by omega)))
    have hS2R : S ≤ 2 * R := hRA.2
    have h1000 : L ≤ 1000 := hLc
    obtain ⟨T, hT⟩ : ∃ T, S * 100 + p = T := ⟨_, rfl⟩
    have HNX := Lib.hid (fun D hD => hNX T D hT hD)
    have HT := Lib.hid hT
    have hTl : T < 3000000000000000 := by omega
    have hbx := (HB.out.block lb hlb).trans HC.out
    have c0 := cell_of_heap hbx 0
    simp at c0
    have HBX := Lib.hid hbx
    clear hk hRA hRl hR hS hp hT hbx hNX
    gi_upto_if 14 with fail
    gi_cut [4] from 15 (fun v4 wx => v4 = .int .i64 (T : Int) ∧ Hid (J k wx) ∧ Hid (Below w.heap.size w wx))
    case first =>
      by_cases hjL : j < L
      · have hk2 : 2 * k < ds.length := by rw [HL.out, ← HJK.out]; exact hjL
        have hpi := pairAt_int HI.out hk2
        rw [HP.out, ← HJK.out] at hpi
        have hrow := HR.out.below HB.out
        obtain ⟨a, rfl, hx0⟩ := hrow j (by rw [HL.out]; exact hjL)
        have hj1 : j + 1 < L := by have := HJK.out; omega
        obtain ⟨a', e', hx1⟩ := hrow (j + 1) (by rw [HL.out]; exact hj1)
        cases e'
        have da := HI.out.at_ (by decide) j; have db := HI.out.at_ (by decide) (j + 1)
        rw [List.getD_eq_getElem?_getD] at da db
        obtain ⟨x, hx⟩ : ∃ x, ds[j]?.getD 0 = x := ⟨_, rfl⟩
        obtain ⟨y, hy⟩ : ∃ y, ds[j + 1]?.getD 0 = y := ⟨_, rfl⟩
        rw [hx] at hx0 hpi da; rw [hy] at hx1 hpi db
        have da0 := da.1; have da1 : x < 10 := da.2; have db0 := db.1; have db1 : y < 10 := db.2
        obtain ⟨j', hj'⟩ : ∃ j', j + 1 = j' := ⟨_, rfl⟩
        have hji : (j : Int) + 1 = (j' : Int) := by omega
        rw [hj'] at hx1 hj1
        have hwx : IntKind.i64.wrap x = x := IntWalk.i64_in _ (by omega)
        have hwy : IntKind.i64.wrap y = y := IntWalk.i64_in _ (by omega)
        have hwj : IntKind.i64.wrap ((j : Int) + 1) = (j' : Int) := by rw [hji]; exact IntWalk.i64_in _ (by omega)
        have hfin : (S : Int) * 100 + (10 * x + y) = (T : Int) := by have := HT.out; omega
        have hwf : IntKind.i64.wrap ((S : Int) * 100 + (10 * x + y)) = (T : Int) := by rw [hfin]; exact IntWalk.i64_in _ (by omega)
        have x0d : wr.drew.cell? (a.add j) = _ := hx0
        have x1d : wr.drew.cell? (a.add j') = _ := hx1
        have c0d : wr.drew.cell? ⟨lb, 0, none⟩ = _ := c0
        have HXY := Lib.hid (And.intro hx hy)
        clear hx hy da db hpi hrow hj'
        gi_wp2_with fail
        gi_region
        gi_wp2_with fail
        gi_meet
        case rel => exact ⟨rfl, HJG.out _ _ _ HJ.out ⟨rfl, rfl, rfl, Nat.le_refl _, fun _ _ _ => rfl⟩, HB.out.drew⟩
      · have hp0 : p = 0 := by rw [← HP.out, pairAt, if_neg (by rw [HL.out, ← HJK.out]; exact hjL)]
        have hT0 : (S : Int) * 100 = (T : Int) := by have := HT.out; omega
        have hwT : IntKind.i64.wrap ((S : Int) * 100) = (T : Int) := by rw [hT0]; exact IntWalk.i64_in _ (by omega)
        gi_wp2_with fail
        gi_meet
        case rel => exact ⟨by rw [hT0], HJ.out, HB.out⟩
    case rest =>
      obtain ⟨rfl, HJ1, HB1⟩ := hcut
      obtain ⟨G, rfl⟩ : ∃ G : Nat, G = gk := ⟨_, rfl⟩
      gi_wp2_with fail
      gi_loopg [6] 9 (fun g v6 wx => ∃ d : Nat, v6 = .int .i64 (d : Int) ∧ Hid (d = g) ∧ d ≤ 9 ∧ Hid (down R T d = down R T 9) ∧ wx = wc)
      case atStart => exact ⟨9, rfl, rfl, by omega, rfl, rfl⟩
      case round =>
        obtain ⟨d, rfl, HDG, hd9, HDD, rfl⟩ := hrel
        have hmul : (20 * R + d) * d ≤ (20 * R + 9) * 9 := Nat.mul_le_mul (by omega) hd9
        obtain ⟨X, hX⟩ : ∃ X, (20 * R + d) * d = X := ⟨_, rfl⟩
        rw [hX] at hmul
        have hXi : (20 * (R : Int) + (d : Int)) * (d : Int) = (X : Int) := by rw [← hX]; push_cast; rfl
        have hwX : IntKind.i64.wrap ((20 * (R : Int) + (d : Int)) * (d : Int)) = (X : Int) := by rw [hXi]; exact IntWalk.i64_in _ (by omega)
        have HXX := Lib.hid hX
        clear hX
        by_cases hXT : X ≤ T
        · have hD := down_stop (R := R) (S := T) (d := d) (by rw [HXX.out]; exact hXT)
          rw [HDD.out] at hD
          have HN := Lib.hid (HNX.out d hD)
          obtain ⟨Y, hY⟩ : ∃ Y, T - X = Y := ⟨_, rfl⟩
          have hTX : (T : Int) - (X : Int) = (Y : Int) := by omega
          have hwTX : IntKind.i64.wrap ((T : Int) - (X : Int)) = (Y : Int) := by rw [hTX]; exact IntWalk.i64_in _ (by omega)
          have HYY := Lib.hid hY
          have c1 := cell_of_heap ((HB1.out.block lb hlb).trans HC.out) 0
          simp at c1
          obtain ⟨fn, tmps, assign, body, hy, hR⟩ := HY.out k _ HJ1.out
          rw [HN.out.2.2, HXX.out, hY, HL.out] at hy
          dsimp only at hy
          have hwd : IntKind.u8.wrap (d : Int) = (d : Int) := by rw [show IntKind.u8.wrap (d : Int) = (d : Int) % 256 from rfl]; omega
          have hj2 : (2 * (k : Int) + 2) = (j : Int) + 2 := by have := HJK.out; omega
          rw [hj2] at hy
          obtain ⟨bb, hbb⟩ : ∃ bb, (decide ((Y : Int) > 0) || decide ((j : Int) + 2 < (L : Int))) = bb := ⟨_, rfl⟩
          rw [hbb] at hy
          have h3 : (0 < Y ∧ bb = true) ∨ (¬ 0 < Y ∧ j + 2 < L ∧ bb = true) ∨ (¬ 0 < Y ∧ ¬ j + 2 < L ∧ bb = false) := by
            rw [← hbb]
            by_cases q1 : 0 < Y
            · exact .inl ⟨q1, by simp; omega⟩
            · by_cases q2 : j + 2 < L
              · exact .inr (.inl ⟨q1, q2, by simp; omega⟩)
              · exact .inr (.inr ⟨q1, q2, by simp; omega⟩)
          have hj30 : j < 30 := by have := HJK.out; omega
          have HRR := Lib.hid hR
          have HGG := Lib.hid (show Hid (k + G = N) from HK.out)
          clear hD hY hj2 hbb hR
          rcases h3 with ⟨p1, rfl⟩ | ⟨p1, p2, rfl⟩ | ⟨p1, p2, rfl⟩
          · have p1i : (0 : Int) < (Y : Int) := by omega
            gi_wp2_with fail
            refine HRR.out.mono ?_
            rintro e W3 (⟨rfl, hJ3, hk3⟩ | ⟨rfl, hJx3⟩)
            · gi_wp2_with fail
              go_roundg (G - 1)
              case measure => have := HGG.out.out; omega
              case rel =>
                refine ⟨k + 1, ?_, ?_, ⟨j + 2, by go_num, by have := HJK.out; show _ = _; omega⟩, by have := HGG.out.out; omega, hJ3, HB1.out.trans hk3⟩
                · rw [HN.out.1]; push_cast; rfl
                · rw [HN.out.2.1, HXX.out, HYY.out]
            · gi_wp2_with fail
              refine bodyPost_ret (results_none rfl _ _ _) rfl ?_
              exact ⟨⟨_, rfl⟩, k, hJx3⟩
          · have p2i : (j : Int) + 2 < (L : Int) := by omega
            have p1i : ¬ (0 : Int) < (Y : Int) := by omega
            gi_wp2_with fail
            refine HRR.out.mono ?_
            rintro e W3 (⟨rfl, hJ3, hk3⟩ | ⟨rfl, hJx3⟩)
            · gi_wp2_with fail
              go_roundg (G - 1)
              case measure => have := HGG.out.out; omega
              case rel =>
                refine ⟨k + 1, ?_, ?_, ⟨j + 2, by go_num, by have := HJK.out; show _ = _; omega⟩, by have := HGG.out.out; omega, hJ3, HB1.out.trans hk3⟩
                · rw [HN.out.1]; push_cast; rfl
                · rw [HN.out.2.1, HXX.out, HYY.out]
            · gi_wp2_with fail
              refine bodyPost_ret (results_none rfl _ _ _) rfl ?_
              exact ⟨⟨_, rfl⟩, k, hJx3⟩
          · have p2i : ¬ (j : Int) + 2 < (L : Int) := by omega
            have p1i : ¬ (0 : Int) < (Y : Int) := by omega
            gi_wp2_with fail
            refine HRR.out.mono ?_
            rintro e W3 (⟨rfl, hJ3, hk3⟩ | ⟨rfl, hJx3⟩)
            · gi_wp2_with fail
              go_roundg (G - 1)
              case measure => have := HGG.out.out; omega
              case rel =>
                refine ⟨k + 1, ?_, ?_, ⟨j + 2, by go_num, by have := HJK.out; show _ = _; omega⟩, by have := HGG.out.out; omega, hJ3, HB1.out.trans hk3⟩
                · rw [HN.out.1]; push_cast; rfl
                · rw [HN.out.2.1, HXX.out, HYY.out]
            · gi_wp2_with fail
              refine bodyPost_ret (results_none rfl _ _ _) rfl ?_
              exact ⟨⟨_, rfl⟩, k, hJx3⟩
        · have hd0 : d ≠ 0 := fun e => by
            subst e
            have := HXX.out
            rw [Nat.mul_zero] at this
            omega
          obtain ⟨e, he⟩ : ∃ e, d = e + 1 := ⟨d - 1, by omega⟩
          have hde : (d : Int) - 1 = (e : Int) := by omega
          have hwd : IntKind.i64.wrap ((d : Int) - 1) = (e : Int) := by rw [hde]; exact IntWalk.i64_in _ (by omega)
          have HE := Lib.hid he
          clear he
          gi_wp2_with fail
          go_roundg (gk - 1)
          case measure => have := HDG.out; omega
          case rel =>
            refine ⟨e, by go_num, by have := HDG.out; have := HE.out; show _ = _; omega, by have := HE.out; omega, ?_, rfl⟩
            have h1 := HDD.out
            rw [HE.out, down_step (by rw [← HE.out, HXX.out]; exact hXT)] at h1
            exact h1
end Go.Proofs.YtekbfommnmikbaaGreatDoor
