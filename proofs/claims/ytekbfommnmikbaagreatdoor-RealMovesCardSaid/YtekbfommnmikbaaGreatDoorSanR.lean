/- The sanity of the laws of package real: the values. -/
import Derived.Test.YtekbfommnmikbaaGreatDoorParse
import Derived.Test.YtekbfommnmikbaaGreatDoorPlaces
import Derived.Test.YtekbfommnmikbaaGreatDoorRealY
namespace Go.Proofs.YtekbfommnmikbaaGreatDoor
set_option linter.unusedVariables false
set_option linter.unusedSimpArgs false
open Go.RowKit Go.Shelf Go.Proofs Go.Sort
attribute [local go_sem ↓] Go.wp_at_zero Go.wp_at_succ
set_option maxRecDepth 100000

theorem san_sum : sumX [(100000000000, 39), (100000000000, -11), (-100000000000, 39)] = .tuple #[.agg #[.int .i64 100000000000, .int .i64 (-11)], .int .i64 0] := by
  have h1 : okL [(100000000000, 39), (100000000000, -11), (-100000000000, 39)] = true := by decide +kernel
  have h2 : sumV [(100000000000, 39), (100000000000, -11), (-100000000000, 39)] = 100000000000 * 10 ^ 211 := by decide +kernel
  have h3 : rnd (100000000000 * 10 ^ 211) (-222) = some (100000000000, -11) := by decide +kernel
  unfold sumX sumR
  rw [if_neg (by decide), if_pos h1, h2]
  rw [show ((100000000000 * 10 ^ 211 : Int)).natAbs = 100000000000 * 10 ^ 211 from by decide +kernel, h3, show decide ((100000000000 * 10 ^ 211 : Int) < 0) = false from by decide +kernel]
  rfl
theorem san_div : divX 200000000000 (-11) 300000000000 (-11) = .tuple #[.agg #[.int .i64 666666666667, .int .i64 (-12)], .int .i64 0] := by
  have h1 : RV (200000000000 : Int).natAbs (-11) ∧ RV (300000000000 : Int).natAbs (-11) := by decide +kernel
  have h2 : quoV 200000000000 (-11) 300000000000 (-11) = some (666666666667, -12) := by decide +kernel
  unfold divX doneR quoR
  rw [if_pos h1, if_pos (by decide), h2]
  rfl
theorem san_root : rootR 200000000000 (-11) = .tuple #[.agg #[.int .i64 141421356237, .int .i64 (-11)], .int .i64 0] := by
  have h1 : RV (200000000000 : Int).natAbs (-11) := by decide +kernel
  have h2 : rootV (200000000000 : Int).natAbs (-11) = some (141421356237, -11) := by decide +kernel
  unfold rootR
  rw [if_neg (fun h => h h1), if_neg (by decide), if_neg (by decide), h2]
  rfl
theorem san_round : roundR 125000000000 (-12) 2 = .tuple #[.agg #[.int .i64 120000000000, .int .i64 (-12)], .int .i64 0] := by
  have h1 : RV (125000000000 : Int).natAbs (-12) := by decide +kernel
  have h2 : rnd (rdiv (125000000000 : Int).natAbs (-2 - -12 : Int).toNat) (-2) = some (120000000000, -12) := by decide +kernel
  have h3 : ¬ (nd (125000000000 : Int).natAbs : Int) < -2 - -12 := by decide +kernel
  unfold roundR
  rw [if_neg (fun h => h h1), if_neg (by decide), if_neg (by decide), if_neg h3, h2]
  rfl
theorem san_steps : plR 100000000000 (-11) - plR 0 0 = 90000000000001 := by decide +kernel
theorem san_scale : scaleR 100000000000 (-11) 100 = .tuple #[.agg #[.int .i64 0, .int .i64 0], .int .i64 3] := by
  have h1 : RV (100000000000 : Int).natAbs (-11) := by decide +kernel
  have h2 : rnd (100000000000 : Int).natAbs (-11 + 100) = none := by decide +kernel
  unfold scaleR
  rw [if_neg (fun h => h h1), if_neg (by decide), h2]
  rfl
theorem san_print : printR (-250000000000) (-15) = .tuple #[.string ⟨#[45, 48, 46, 48, 48, 48, 50, 53]⟩, .int .i64 0] := by
  have h1 : RV (-250000000000 : Int).natAbs (-15) := by decide +kernel
  have h2 : printL (-250000000000) (-15) = [45, 48, 46, 48, 48, 48, 50, 53] := by decide +kernel
  unfold printR
  rw [if_neg (fun h => h h1), h2]
theorem san_parse : parseR [49, 50, 46, 53, 48] = .tuple #[.agg #[.int .i64 125000000000, .int .i64 (-10)], .int .i64 0] := by
  have h1 : pGood [49, 50, 46, 53, 48] = true ∧ (pEe [49, 50, 46, 53, 48]).2.2 = [] := by decide +kernel
  have h2 : pNeg [49, 50, 46, 53, 48] = false := by decide +kernel
  have h3 : rnd (vd (dvs (pDs [49, 50, 46, 53, 48] ++ (pDot [49, 50, 46, 53, 48]).1))).toNat (-((pDot [49, 50, 46, 53, 48]).1.length : Int) + (pEe [49, 50, 46, 53, 48]).1) = some (125000000000, -10) := by decide +kernel
  unfold parseR
  rw [if_pos h1, h2, h3]
  rfl

set_option maxHeartbeats 1000000 in
theorem smallR_c (d n : Int) (w : World) (hd : -9 ≤ d) (hd2 : d ≤ 9) (hn : -1000 ≤ n) (hn2 : n ≤ 1000) (h0 : d ≠ 0) :
    Calls Tryz.prog 61 #[.int .i64 d, .int .i64 n] w fun en w' => en = .returned (.agg #[.int .i64 (d * 100000000000), .int .i64 (n - 11)]) ∧ Below w.heap.size w w' := by
  obtain ⟨W, hW, k0, hbel⟩ := bx1h w #[.int .i64 0, .int .i64 0] 23
  have HBEL := Lib.hid hbel
  have FIN := fin2 k0 (Nat.le_refl _) hbel
  have BOX := box2 k0
  obtain ⟨b0, b1, b2, b3⟩ := BOX.out W (Below.refl _ _)
  clear k0 hbel
  go_enter Tryz.func61, Tryz.ntmps61
  go_wp2_with fail
  obtain ⟨r0, r1, hbb⟩ := FIN.out W (d * 100000000000) (n - 11) (Below.refl _ _)
  refine bodyPost_ret (v := .agg #[.int .i64 (d * 100000000000), .int .i64 (n - 11)]) (by simp [results, Tryz.results61, go_sem, r0, r1]) rfl ?_
  exact ⟨rfl, hbb⟩
end Go.Proofs.YtekbfommnmikbaaGreatDoor
