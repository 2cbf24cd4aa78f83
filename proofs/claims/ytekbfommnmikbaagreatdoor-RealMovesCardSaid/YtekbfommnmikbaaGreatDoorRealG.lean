/- Package real: the sum of the columns. -/
import Derived.Test.YtekbfommnmikbaaGreatDoorRealF
import Derived.RegionIn
import Derived.BigRegionIn
namespace Go.Proofs.YtekbfommnmikbaaGreatDoor
set_option linter.unusedVariables false
set_option linter.unusedSimpArgs false
open Go.RowKit Go.Shelf
attribute [local go_sem] Oper.semAt_some

set_option maxRecDepth 100000 in
set_option maxHeartbeats 2000000 in
/-- The closure: for every loop body that keeps what it reads. -/
theorem back1_in (F : Fence) (n : Nat) (h7 : F.fn 236) (hro : F.round = none) (hn : 1 ≤ n) (l Bs n₀ : Nat) (A : Option Addr) (cap : Nat) (zs : List Int) (hreach : zs.length ≤ 9223372036854775807) (J Jx : List (Ix zs.length) → World → Prop)
    (W : World) (hA : ∀ a, A = some a → zs.length = 0 ∨ a.block < n₀) (hY : ∀ pre x W1, J pre W1 → pre.length < zs.length → YieldAt F (n - 1) Tryz.prog l #[.int .i64 ((x.1 : Nat) : Int), .int .i64 (zs[x.1]?.getD 0)] W1 fun e W' =>
      (e = .returned (.bool true) ∧ J (pre ++ [x]) W' ∧ Kd n₀ Bs W1 W') ∨ (e = .returned (.bool false) ∧ Jx (pre ++ [x]) W'))
    (hBs : W.cell? ⟨Bs, 0, none⟩ = some (.slice A zs.length cap)) (hc : Row .i64 W A zs) (h0 : J [] W) :
    CallsIn F n Tryz.prog 236 #[.func (.yield l) #[] #[], .pointer (some ⟨Bs, 0, none⟩)] W fun e W' => (∃ v, e = .returned v) ∧
      ((∃ ys, ys = dn zs.length zs.length ∧ J ys W') ∨ (∃ pre, (∃ k, k < zs.length ∧ pre = dn zs.length (k + 1)) ∧ Jx pre W')) := by
  refine callsIn_of_wp Tryz.func236 rfl h7 ?_ hro
  simp only [Tryz.ntmps236, List.size_toArray, List.length_cons, List.length_nil, Nat.reduceAdd, Nat.reduceSub, Array.replicate_succ, Array.replicate_zero, List.push_toArray, List.append_toArray, List.nil_append, List.cons_append]
  have HC := Lib.hid hc
  clear hc
  gi_wp2
  have HBs := Lib.hid hBs
  clear hBs
  gi_loopw [3] (fun i wr => ∃ k : Nat, k ≤ zs.length ∧ i = .int .i64 ((zs.length : Int) - 1 - k) ∧ J (dn zs.length k) wr ∧ Hid (Kd n₀ Bs W wr))
    (fun i _ => (intOf i + 1).toNat)
  case atStart => exact ⟨0, Nat.zero_le _, by simp, by rw [dn_zero]; exact h0, ⟨Below.refl _ _, rfl⟩⟩
  case round =>
    obtain ⟨k, hk, rfl, hJs, HX⟩ := hrel
    have hbx : wr.cell? ⟨Bs, 0, none⟩ = some (.slice A zs.length cap) := (World.cell?_of_block (w := W) (a := ⟨Bs, 0, none⟩) HX.out.2).trans HBs.out
    by_cases hlt : k < zs.length
    · obtain ⟨j, hj⟩ : ∃ j, zs.length = k + j + 1 := ⟨zs.length - k - 1, by omega⟩
      have HJ := Lib.hid hj
      have hjl : j < zs.length := by omega
      have ej : ((zs.length : Int) - 1 - k) = (j : Int) := by omega
      rw [ej]
      obtain ⟨a, rfl, hcell⟩ := HC.out j (by omega)
      have hcj : wr.cell? (a.add j) = some (.int .i64 (zs[j]?.getD 0)) := (HX.out.1.cell (by rw [add_block]; exact (hA a rfl).resolve_left (by omega))).trans hcell
      clear hcell
      obtain ⟨fn, tmps, assign, body, hy, hR⟩ := hY _ ⟨j, hjl⟩ wr hJs (by rw [dn_length _ _ hk]; exact hlt)
      have e5 : dn zs.length (k + 1) = dn zs.length k ++ [⟨j, hjl⟩] := by rw [dn_succ _ _ hlt]; congr 3; omega
      have HE := Lib.hid e5
      dsimp only at hy
      clear hj e5 ej
      generalize hz : zs[j]?.getD 0 = z at *
      have HZ := Lib.hid hz
      clear hz
      gi_wp2
      refine hR.mono ?_
      rintro e W3 (⟨rfl, hJ3, hk3⟩ | ⟨rfl, hJx3⟩)
      · gi_wp2
        go_roundw
        case rel => exact ⟨k + 1, by omega, by have := HJ.out; first | (simp; done) | (simp; omega), by rw [HE.out]; exact hJ3, HX.out.t hk3⟩
        case measure => first | (simp [intOf]; done) | (simp [intOf]; have := HJ.out; omega)
      · gi_wp2
        refine bodyPost_ret (results_none rfl _ _ _) rfl ?_
        exact ⟨⟨_, rfl⟩, .inr ⟨_, ⟨k, by omega, HE.out.symm⟩, hJx3⟩⟩
    · obtain rfl : k = zs.length := by omega
      gi_wp2
      go_end0
      exact ⟨⟨_, rfl⟩, .inl ⟨_, rfl, hJs⟩⟩

set_option maxHeartbeats 1000000 in
/-- down: the slice value is boxed; the function value captures the box. -/
theorem back_in (F : Fence) (n : Nat) (h5 : F.fn 215) (hro : F.round = none) (a : Option Addr) (len cap : Nat) (w : World) :
    CallsIn F n Tryz.prog 215 #[.slice a len cap] w fun e w' => e = .returned (.func (.func 236) #[] #[.pointer (some ⟨w.heap.size, 0, none⟩)]) ∧ w' = w.alloc (.cells #[.slice a len cap] 55) := by
  refine callsIn_of_wp Tryz.func215 rfl h5 ?_ hro
  simp only [Tryz.ntmps215, List.size_toArray, List.length_cons, List.length_nil, Nat.reduceAdd, Nat.reduceSub, Array.replicate_succ, Array.replicate_zero, List.push_toArray, List.append_toArray, List.nil_append, List.cons_append]
  gi_wp2
  go_ret
  exact ⟨rfl, rfl⟩

theorem back_stops (F : Fence) (n : Nat) (h7 : F.fn 236) (hro : F.round = none) (hn : 1 ≤ n) (Bs n₀ : Nat) (A : Option Addr) (cap : Nat) (zs : List Int) (hreach : zs.length ≤ 9223372036854775807) (w : World) (hBs : Bs < w.heap.size)
    (hA : ∀ a, A = some a → zs.length = 0 ∨ a.block < n₀) (hn₀ : n₀ ≤ w.heap.size) (hc : w.cell? ⟨Bs, 0, none⟩ = some (.slice A zs.length cap)) (hI : Row .i64 w A zs) :
    SeqStopsK F n Tryz.prog 236 #[.pointer (some ⟨Bs, 0, none⟩)] (fun x : Ix zs.length => #[Value.int .i64 ((x.1 : Nat) : Int), Value.int .i64 (zs[x.1]?.getD 0)]) (Kd n₀ Bs) (fun ys => ys = dn zs.length zs.length) (fun pre => ∃ k, k < zs.length ∧ pre = dn zs.length (k + 1)) zs.length w := fun l J Jx W hW _ _ hY h0 =>
  back1_in F n h7 hro hn l Bs n₀ A cap zs hreach J Jx W hA hY ((hW.cell (p := ⟨Bs, 0, none⟩) hBs).trans hc) (hI.below hW) h0


theorem dn_rev (u : List Int) : ((dn u.length u.length).map fun x => Value.int .u8 (u[x.1]?.getD 0)) = u.reverse.map (Value.int .u8) := by
  apply List.ext_getElem
  · rw [List.length_map, dn_length _ _ (Nat.le_refl _), List.length_map, List.length_reverse]
  · intro i h1 h2
    have hi : i < u.length := by simpa using h2
    rw [List.getElem_map, List.getElem_map, List.getElem_reverse]
    simp only [dn, List.getElem_map, List.getElem_attach, List.getElem_range]
    rw [List.getElem?_eq_getElem (by omega)]; rfl
theorem heapKept {W W' : World} {b : Nat} {cs : Array Value} {t : TypeId} {fz : Nat × Nat} {row : Option Nat} (h : W.heap[b]? = some (.cells cs t fz)) (hg : W.grownBy W' row) (hr : ∀ r, row = some r → ∃ o : Obj, W.heap[r]? = some o ∧ o.isCells = false) : W'.heap[b]? = some (.cells cs t fz) := by
  rw [hg.block b (Array.getElem?_eq_some_iff.1 h).1 ?_]
  · exact h
  · intro e'
    obtain ⟨o, ho, hc⟩ := hr b e'.symm
    rw [h] at ho; cases ho; cases hc
theorem Kb.trans' {B n : Nat} {a b c : World} (h : Kb B a b) (k : Below n b c) (hn : a.heap.size ≤ n) : Kb B a c := ⟨k.os.trans h.os, k.tape.trans h.tape, k.output.trans h.output, Nat.le_trans h.size k.size, fun g hg hB => (k.block g (by omega)).trans (h.block g hg hB)⟩
/-- The first i columns turned around in sign. -/
def negAt (u : List Int) (i : Nat) : List Int := (u.take i).map (fun x => -x) ++ u.drop i
theorem negAt_zero (u : List Int) : negAt u 0 = u := by simp [negAt]
theorem negAt_all {u : List Int} {L : Nat} (h : u.length = L) : negAt u L = u.map fun x => -x := by
  unfold negAt; rw [List.take_of_length_le (by omega), List.drop_eq_nil_of_le (by omega), List.append_nil]
theorem negAt_length {u : List Int} {L i : Nat} (h : u.length = L) (hi : i ≤ L) : (negAt u i).length = L := by simp [negAt]; omega
theorem negAt_at {u : List Int} {i : Nat} (hi : i < u.length) : (negAt u i)[i]?.getD 0 = u[i]?.getD 0 := by
  unfold negAt
  exact cols_at (by rw [List.length_map, List.length_take]; omega) hi
theorem negAt_set {u : List Int} {i : Nat} (hi : i < u.length) {x : Int} (hx : u[i]?.getD 0 = x) : (negAt u i).set i (-x) = negAt u (i + 1) := by
  unfold negAt
  rw [cols_set (by rw [List.length_map, List.length_take]; omega) hi, drop_take hi, hx, List.map_append]; rfl
theorem tb_digits {u : List Int} (h : InR 10 u) : TB 9 (u.map fun x => -x) := fun y hy => by
  obtain ⟨x, hx, rfl⟩ := List.mem_map.1 hy
  have := h x hx
  have h2 : x < 10 := this.2
  omega

set_option maxRecDepth 100000 in
set_option maxHeartbeats 4000000 in
theorem total_in (B : Nat) (t : List Int) (M : Int) (w : World) (hB : B < w.heap.size) (hc : Cols w B t) (ht : t.length = 430) (hM : TB M t) (hM0 : 0 ≤ M) (hM1 : M ≤ 1000000000000) (hV0 : -(10 ^ 430) < val 10 t) (hV1 : val 10 t < 10 ^ 430) :
    CallsIn Fence.wide 6 Tryz.prog 174 #[.pointer (some ⟨B, 0, none⟩)] w fun en w' => ∃ v ds, en = .returned v ∧ Amt w' v (decide (val 10 t < 0)) ds (-222) false ∧ InR 10 ds ∧ vd ds = ((val 10 t).natAbs : Int) ∧ ds.length = 430 ∧ Kb B w w' := by
  have HC0 := Lib.hid hc; have HT := Lib.hid ht; have HM := Lib.hid hM; have HV := Lib.hid (And.intro hV0 hV1)
  clear hc ht hM hV0 hV1
  refine callsIn_of_wp_marks Tryz.func174 rfl trivial ?_ rfl
  simp only [Tryz.ntmps174, List.size_toArray, List.length_cons, List.length_nil, Nat.reduceAdd, Nat.reduceSub, Array.replicate_succ, Array.replicate_zero, List.push_toArray, List.append_toArray, List.nil_append, List.cons_append]
  obtain ⟨W, hW, k0, k1, hbel, hsz⟩ := bx2h w #[.bool false, .slice none 0 0, .int .i64 0, .bool false] #[.bool false, .slice none 0 0, .int .i64 (-222), .bool false] 95 95
  have HK0 := Lib.hid k0; have HK1 := Lib.hid k1; have HBEL := Lib.hid hbel; have HSZ := Lib.hid hsz
  have HC1 : Hid (Cols W B t) := heapB hbel HC0.out
  have hBW : B < W.heap.size := by omega
  have HWD := Lib.hid hW
  obtain ⟨s, hs⟩ : ∃ s, decide (val 10 t < 0) = s := ⟨_, rfl⟩
  rw [hs]
  have HS := Lib.hid hs
  clear k0 k1 hbel hsz hW hs
  gi_upto_region 2 with fail
  rw [HWD.out]
  gi_upto_if 10 with (refine ⟨trivial, ?_⟩; gi_at_call 214; refine (callsIn_wide.2 (carry_c B t M _ hBW HC1.out HT.out HM.out hM0 hM1)).mono ?_; rintro en W2 ⟨o, u, rfl, hcu, hlu, hiu, hvu, hkb⟩; have HCU := Lib.hid hcu; have HLU := Lib.hid hlu; have HIU := Lib.hid hiu; have HVU := Lib.hid hvu; have HKB := Lib.hid hkb; clear hcu hlu hiu hvu hkb)
  have HA2 : Hid (W2.heap[w.heap.size + 1]? = _) := HKB.out.heap HK1.out (by omega)
  have HR2 : Hid (W2.heap[w.heap.size]? = _) := HKB.out.heap HK0.out (by omega)
  have HKW : Hid (Kb B w W2) := (Kb.of HBEL.out).trans HKB.out
  have hsz2 : w.heap.size + 2 ≤ W2.heap.size := by have := HKB.out.size; have := HSZ.out; omega
  gi_cut [4] from 11 (fun v4 wx => ∃ u', Hid (Cols wx B u') ∧ Hid (u'.length = 430 ∧ InR 10 u' ∧ val 10 u' = ((val 10 t).natAbs : Int)) ∧ Hid (wx.heap[w.heap.size + 1]? = some (.cells #[.bool s, .slice none 0 0, .int .i64 (-222), .bool false] 95 (0, 0))) ∧ Hid (wx.heap[w.heap.size]? = some (.cells #[.bool false, .slice none 0 0, .int .i64 0, .bool false] 95 (0, 0))) ∧ Hid (Kb B w wx) ∧ Hid (w.heap.size + 2 ≤ wx.heap.size))
  case first =>
    have HCO := Lib.hid (carry_over HLU.out HIU.out HVU.out)
    by_cases hV : 0 ≤ val 10 t
    · obtain ⟨rfl, hv⟩ := HCO.out.1 hV HV.out.2
      have HVV : Hid (val 10 u = ((val 10 t).natAbs : Int)) := by show _ = _; rw [hv]; omega
      obtain rfl : s = false := by rw [← HS.out]; simpa using hV
      clear hV hv
      gi_wp2_with fail
      gi_meet
      case rel => exact ⟨u, HCU.out, ⟨HLU.out, HIU.out, HVV.out⟩, HA2.out, HR2.out, HKW.out, hsz2⟩
    · obtain ⟨rfl, hv⟩ := HCO.out.2 (by omega) (Int.le_of_lt HV.out.1)
      have HVV := Lib.hid hv
      obtain rfl : s = true := by rw [← HS.out]; simpa using hV
      have hVn : val 10 t < 0 := by omega
      have HVN := Lib.hid hVn
      have c0 := cell_of_heap HA2.out 0
      have f0 := free_of_heap HA2.out 0
      simp at c0
      clear hV hv hVn
      gi_wp2_with fail
      have HCU3 : Hid (Cols (W2.setCell ⟨w.heap.size + 1, 0, none⟩ (.bool true)) B u) := (Below.heap_setCell _ _ _ _ (by simp; omega)).trans HCU.out
      have hra := putB HA2.out 0 (.bool true)
      simp at hra
      have HA3 := Lib.hid hra
      have HR3 : Hid ((W2.setCell ⟨w.heap.size + 1, 0, none⟩ (.bool true)).heap[w.heap.size]? = _) := (Below.heap_setCell _ _ _ _ (by simp)).trans HR2.out
      have HK3 : Hid (Kb B w (W2.setCell ⟨w.heap.size + 1, 0, none⟩ (.bool true))) := by
        have h1 := (Below.refl (w.heap.size + 1) W2).setCell (p := ⟨w.heap.size + 1, 0, none⟩) (Nat.le_refl _) (.bool true)
        exact HKW.out.trans' h1 (by omega)
      have hsz3 : w.heap.size + 2 ≤ (W2.setCell ⟨w.heap.size + 1, 0, none⟩ (.bool true)).heap.size := by simpa using hsz2
      clear hra c0 f0
      obtain ⟨W3, hW3⟩ : ∃ W3, W2.setCell ⟨w.heap.size + 1, 0, none⟩ (.bool true) = W3 := ⟨_, rfl⟩
      rw [hW3] at HCU3 HA3 HR3 HK3 hsz3 ⊢
      clear hW3
      gi_loopg [4, 13] 430 (fun g v4 iv wr => ∃ i : Nat, iv = .int .i64 (i : Int) ∧ i + g = 430 ∧ Hid (Cols wr B (negAt u i)) ∧ Hid (Kb B W3 wr))
      case atStart => exact ⟨0, rfl, by omega, by show Cols _ _ _; rw [negAt_zero]; exact HCU3.out, Kb.refl _ _⟩
      case round =>
        obtain ⟨i, rfl, hi, HC, HW⟩ := hrel
        have HI := Lib.hid hi
        by_cases hi4 : i < 430
        · have hiu : i < u.length := by rw [HLU.out]; exact hi4
          have hcj := HC.out.cell i (by rw [negAt_length HLU.out (by omega)]; exact hi4)
          rw [negAt_at hiu] at hcj
          have hfj := HC.out.free i
          have hin := HIU.out.at_ (by decide) i
          rw [List.getD_eq_getElem?_getD] at hin
          obtain ⟨x, hx⟩ : ∃ x, u[i]?.getD 0 = x := ⟨_, rfl⟩
          rw [hx] at hcj hin
          have HX := Lib.hid hx
          have hin0 := hin.1
          have hin9 : x < 10 := hin.2
          have j0 : (0 : Int) ≤ (i : Int) := by omega
          have j1 : (i : Int) < 430 := by omega
          have hwn : IntKind.i64.wrap (-x) = -x := IntWalk.i64_in _ (by omega)
          clear hi hx hin
          gi_wp2_with fail
          gi_region
          gi_wp2_with fail
          go_roundg (gk - 1)
          case measure => have := HI.out; omega
          case rel =>
            refine ⟨i + 1, by go_num, by have := HI.out; omega, ?_, (HW.out.trans (Kb.set B i wr _)).trans (Kb.drew _ _)⟩
            have h1 := (HC.out.put i (-x)).drew
            rw [negAt_set hiu HX.out] at h1
            exact h1
        · obtain rfl : i = 430 := by omega
          clear hi
          have HC2 : Hid (Cols wr B (u.map fun x => -x)) := by show Cols _ _ _; rw [← negAt_all HLU.out]; exact HC.out
          have HL2 : Hid ((u.map fun x => -x).length = 430) := by show _ = _; rw [List.length_map]; exact HLU.out
          have HTB2 := Lib.hid (tb_digits HIU.out)
          have HVN2 : Hid (val 10 (u.map fun x => -x) = -val 10 u) := val_neg 10 u
          have hBr : B < wr.heap.size := Nat.lt_of_lt_of_le (by omega) HW.out.size
          gi_wp2_with (refine ⟨trivial, ?_⟩; gi_at_call 214; refine (callsIn_wide.2 (carry_c B _ 9 _ hBr HC2.out HL2.out HTB2.out (by decide) (by decide))).mono ?_; rintro en W4 ⟨o, u4, rfl, hcu, hlu, hiu, hvu, hkb⟩; rw [HVN2.out] at hvu; have HCU4 := Lib.hid hcu; have HLU4 := Lib.hid hlu; have HIU4 := Lib.hid hiu; have HVU4 := Lib.hid hvu; have HKB4 := Lib.hid hkb; clear hcu hlu hiu hvu hkb)
          gi_meet
          case rel =>
            have HX := HW.out.trans HKB4.out
            refine ⟨u4, HCU4.out, ⟨HLU4.out, HIU4.out, ?_⟩, HX.heap HA3.out (by omega), HX.heap HR3.out (by omega), HK3.out.trans HX, Nat.le_trans hsz3 HX.size⟩
            have hv2 := HVV.out
            have hv3 := HV.out.1
            have hn := HVN.out
            have h4 := (carry_over HLU4.out HIU4.out HVU4.out).2
            have hvl := val_lt HIU.out
            rw [HLU.out] at hvl
            have hp : (0 : Int) < 10 ^ 430 := Int.pow_pos (by omega)
            have hvl' : val 10 u < 10 ^ 430 := hvl
            generalize (10 : Int) ^ 430 = P at *
            obtain ⟨-, h5⟩ := h4 (by omega) (by omega)
            omega
  case rest =>
    obtain ⟨u, HCU, HUU, HA, HR, HKB, HSZ2⟩ := hcut
    gi_wp2_with (refine ⟨trivial, ?_⟩; gi_at_call 215; refine (back_in Fence.wide (6 - 1) trivial rfl _ _ _ _).mono ?_; rintro e w' ⟨rfl, rfl⟩)
    have hKW5 : Below wc.heap.size wc (wc.alloc (.cells #[.slice (some ⟨B, 0, none⟩) 430 430] 55)) := (Below.refl _ _).alloc (Nat.le_refl _) _
    have hbx5 : (wc.alloc (.cells #[.slice (some ⟨B, 0, none⟩) 430 430] 55)).heap[wc.heap.size]? = some (.cells #[.slice (some ⟨B, 0, none⟩) 430 430] 55 (0, 0)) := heap_alloc_new _ _
    have hs5 : (wc.alloc (.cells #[.slice (some ⟨B, 0, none⟩) 430 430] 55)).heap.size = wc.heap.size + 1 := by simp
    obtain ⟨W5, hW5⟩ : ∃ W5, wc.alloc (.cells #[.slice (some ⟨B, 0, none⟩) 430 430] 55) = W5 := ⟨_, rfl⟩
    rw [hW5] at hKW5 hbx5 hs5 ⊢
    have HC5 : Hid (Cols W5 B u) := heapB hKW5 HCU.out
    have HA5 := Lib.hid (heapB hKW5 HA.out); have HR5 := Lib.hid (heapB hKW5 HR.out)
    have HKB5 : Hid (Kb B w W5) := HKB.out.trans (Kb.of hKW5)
    have hz2 := HSZ2.out
    have hlu : u.length = 430 := HUU.out.1
    have HROW : Hid (Row .i64 W5 (some ⟨B, 0, none⟩) u) := fun j hj => ⟨_, rfl, by rw [add_lit, Nat.zero_add]; exact HC5.out.cell j hj⟩
    have hst := back_stops Fence.wide (6 - 1) trivial rfl (by decide) wc.heap.size (w.heap.size + 1) (some ⟨B, 0, none⟩) 430 u (by omega) W5 (by omega) (fun a ha => by cases ha; exact .inr (show B < _ by omega)) (by omega) (by rw [hlu]; exact cell_of_heap hbx5 0) HROW.out
    obtain ⟨I0, hi, hz0, hz1, hz3⟩ := info_parts info_byte
    have HI := Lib.hid (And.intro hi (And.intro hz0 (And.intro hz1 hz3)))
    have HST := Lib.hid hst
    have HLU2 := Lib.hid hlu
    clear hi hz0 hz1 hz3 hW5 hKW5 hst hlu
    refine wpIn_rangeFunc_ownF rfl (by decide) (gf := 236) (lb := #[.pointer (some ⟨wc.heap.size, 0, none⟩)]) rfl trivial (enters_of Tryz.func236 (by kernel_rfl) rfl)
      HST.out Kd.t (Kd.b (by omega) (by omega)) (Below.refl _ _) (fun _ => rfl)
      (fun pre V => (∃ v, V.heap[w.heap.size + 1]? = some (.cells #[.bool s, v, .int .i64 (-222), .bool false] 95 (0, 0)) ∧ V.ownsRow W5.heap.size 5 1 v pre.length (pre.map fun x => Value.int .u8 (u[x.1]?.getD 0))) ∧ Below (w.heap.size + 1) W5 V)
      (fun c pre V => False)
      (OwnFrom.and (Own.from (fun s X Y row hs hg hr => by obtain ⟨v, h1, h2⟩ := hs; exact ⟨v, heapKept h1 hg hr, own_kept h2 hg hr⟩) _) (ownFrom_below (by omega) (by omega)))
      (fun c s X Y row hs _ _ => hs)
      ⟨⟨_, HA5.out, World.ownsRow_nil _ _ _ _⟩, Below.refl _ _⟩
      (fun x => { tmps := (.pointer (some ⟨B, 0, none⟩) :: undef :: .pointer (some ⟨w.heap.size, 0, none⟩) :: .pointer (some ⟨w.heap.size + 1, 0, none⟩) :: u4 :: undef :: .int .i64 (u[x.1]?.getD 0) :: .agg #[.bool false, .slice none 0 0, .int .i64 (-222), .bool false] :: .pointer (some ⟨B, 0, none⟩) :: .int .i64 o :: .bool (decide (o < 0)) :: u11 :: u12 :: u13 :: u14 :: u15 :: u16 :: u17 :: u18 :: u19 :: u20 :: u21 :: u22 :: u23 :: u24 :: u25 :: u26 :: u27 :: u28 :: .pointer (some ⟨B, 0, none⟩) :: .pointer (some ⟨B, 0, none⟩) :: .slice (some ⟨B, 0, none⟩) 430 430 :: .func (.func 236) #[] #[.pointer (some ⟨wc.heap.size, 0, none⟩)] :: .int .i64 ((x.1 : Nat) : Int) :: .int .i64 (u[x.1]?.getD 0) :: u35 :: u36 :: u37 :: u38 :: u39 :: u40 :: u41 :: u42 :: []).toArray, defers := [] }) ?assign ?body ?done ?stop
    case assign =>
      intro l x W K hK
      gi_wp2
      exact hK
    case stop => rintro _ _ _ _ _ _ h; exact h.elim
    case body =>
      rintro l pre x V ⟨⟨v, ha, hown⟩, hB⟩ hpl
      obtain ⟨xi, hxi⟩ := x
      dsimp only at *
      have hin := HUU.out.2.1.at_ (by decide) xi
      rw [List.getD_eq_getElem?_getD] at hin
      obtain ⟨d, hd⟩ : ∃ d, u[xi]?.getD 0 = d := ⟨_, rfl⟩
      rw [hd] at hin ⊢
      have hin0 := hin.1
      have hin9 : d < 10 := hin.2
      have hwr : IntKind.u8.wrap d = d := by rw [show IntKind.u8.wrap d = d % 256 from rfl]; omega
      have hwr2 : IntKind.i64.wrap d = d := IntWalk.i64_in _ (by omega)
      have HD := Lib.hid hd
      have c0 := cell_of_heap ha 1
      simp at c0
      have hz5 : W5.heap.size ≤ V.heap.size := hB.size
      have HOW := Lib.hid hown
      have HAX := Lib.hid ha
      have HBX := Lib.hid hB
      have HNE := Lib.hid (own_neB hown (B := w.heap.size + 1) (by omega))
      have HCE : Hid (∀ (j : Nat) (o : Obj), v.ownBlock = some j → (V.alloc (.cells #[.int .u8 d] 5)).heap[j]? = some o → o.isCells = true) := fun j o hj ho => by
        rcases hown.2 with ⟨rfl, _⟩ | ⟨g, cap, cur, rfl, _, hh, _⟩
        · cases hj
        · cases hj
          rw [heap_old _ hh] at ho
          cases ho; rfl
      have hpl2 : pre.length < 430 := by have := HLU2.out; omega
      have a01 : ∀ o, (V.alloc o).cell? ⟨w.heap.size + 1, 1, none⟩ = some v := fun o => keep_cell ((Below.refl _ _).alloc (Nat.le_refl _) o) c0
      clear hd hin ha hown hB
      gi_wp2_with (gi_at_builtin; refine wpListIn_append_own _ rfl _ _ 93 rfl W5.heap.size 5 I0 (.int .u8 0) 1 1 Tryz.underlying93 HI.out.1 HI.out.2.1 HI.out.2.2.1 HI.out.2.2.2 rfl (by decide) _ _ _ rfl (HOW.out.alloc _) ⟨V.heap.size, 0, none⟩ 1 1 [.int .u8 d] rfl rfl (cell_one_new _ _ _) (by simp [Value.oneCell']) (by unfold maxLen; omega) (by omega) (by simp; omega) ?_; intro v' w1 hown1 hgrow1 _; obtain ⟨g9, cap9, rfl⟩ := own_some' hown1 (by omega); have hxa := grownB hgrow1 (heap_old _ HAX.out) HNE.out; have y1 := cell_of_heap hxa 1; have z1 := free_of_heap hxa 1; have HXA := Lib.hid hxa; have HO1 := Lib.hid hown1; have HG1 := Lib.hid hgrow1; simp at y1; clear hxa hown1 hgrow1)
      have hg1 := HG1.out
      have hb1 : Below (w.heap.size + 1) V w1 := ((Below.refl (w.heap.size + 1) V).alloc (by omega) _).grown hg1 (by simp; omega) ((own_from HOW.out).mono (by omega))
      refine ⟨(KeepsOthers.alloc V _).trans ((KeepsOthers.of_grownBy hg1 HCE.out).trans (KeepsOthers.setCell _ _ _)), ⟨hb1.setCell (p := ⟨w.heap.size + 1, 1, none⟩) (Nat.le_refl _) _, ?_⟩, ⟨.slice (some ⟨g9, 0, none⟩) (pre.length + 1) cap9, ?_, ?_⟩, (HBX.out.trans hb1).setCell (p := ⟨w.heap.size + 1, 1, none⟩) (Nat.le_refl _) _⟩
      · refine (Below.heap_setCell _ _ _ _ (by simp; omega)).trans ((hg1.block _ (by simp; omega) (fun e => ?_)).trans (Below.heap_alloc _ _ _ (by omega)))
        have := (HOW.out.lt _ e.symm).1
        omega
      · have := putB HXA.out 1 (.slice (some ⟨g9, 0, none⟩) (pre.length + 1) cap9)
        simpa using this
      · have h1 := own_setCell_other HO1.out ⟨w.heap.size + 1, 1, none⟩ (.slice (some ⟨g9, 0, none⟩) (pre.length + 1) cap9) (own_neB HO1.out (B := w.heap.size + 1) (by omega))
        rw [List.length_append, List.map_append]
        simp only [List.map_cons, List.map_nil]
        rw [HD.out]
        exact h1
    case done =>
      rintro D ys V hD rfl ⟨⟨v, ha, hown⟩, hB⟩ hK
      rw [dn_length _ _ (Nat.le_refl _), dn_rev u, HLU2.out] at hown
      obtain ⟨A, c, rfl, hc1, hc2, hr, hrl⟩ := own_row hown
      have HRW := Lib.hid hr
      have HFR := Lib.hid (own_from hown)
      have hcm : c ≤ 9223372036854775807 := by unfold maxLen at hc2; omega
      have a0 := cell_of_heap ha 0; have a1 := cell_of_heap ha 1; have a2 := cell_of_heap ha 2; have a3 := cell_of_heap ha 3
      have hr5 := (hB.block w.heap.size (by omega)).trans HR5.out
      have b0 := cell_of_heap hr5 0; have b1 := cell_of_heap hr5 1; have b2 := cell_of_heap hr5 2; have b3 := cell_of_heap hr5 3
      have z0 := free_of_heap hr5 0; have z1 := free_of_heap hr5 1; have z2 := free_of_heap hr5 2; have z3 := free_of_heap hr5 3
      simp at a0 a1 a2 a3 b0 b1 b2 b3
      have HR6 := Lib.hid hr5; have HBX := Lib.hid hB; have HK := Lib.hid hK
      have HC := Lib.hid (And.intro hc1 hcm)
      clear hr hc1 hc2 hcm hrl ha hown hr5 hB hK
      gi_wp2_with fail
      obtain ⟨F, hF, hb, hk, ho⟩ := amt_put (s := s) (n := u.length) (c := c) (A := A) (e := -222) (more := false) HR6.out
      rw [hF]
      have hK' : F.heap[D]? = some (.deferred (some [])) := (ho D (by omega)).trans HK.out
      have hkr : ∀ r, some D = some r → ∃ o : Obj, F.heap[r]? = some o ∧ o.isCells = false := fun r e => by cases e; exact ⟨_, hK', rfl⟩
      have hg := grownBy_putObj' F D (.deferred none)
      have hb' := heapKept hb hg hkr
      have r0 := cell_of_heap hb' 0; have r1 := cell_of_heap hb' 1; have r2 := cell_of_heap hb' 2; have r3 := cell_of_heap hb' 3
      simp at r0 r1 r2 r3
      have tp := total_pos (L := 430) HUU.out.2.1 HUU.out.2.2
      have hrow : Row .u8 F A u.reverse := row_keep HRW.out HFR.out (by omega) ho
      refine ⟨by simp, .inl ⟨_, _, rfl, run_takeDeferred hK', ?_⟩⟩
      refine ⟨.agg #[.bool s, .slice A u.length c, .int .i64 (-222), .bool false], ?_, _, u.reverse, rfl, ⟨A, c, by rw [List.length_reverse], HC.out.1, HC.out.2, row_kept hrow hg hkr⟩, tp.1, tp.2, by rw [List.length_reverse]; exact HUU.out.1, ?_⟩
      · simp [results, Tryz.results174, go_sem, r0, r1, r2, r3]
      · have h1 : Below w.heap.size W5 F := hk _ _ (Nat.le_refl _) (HBX.out.mono (by omega))
        have h2 : Below w.heap.size W5 (F.putObj D (.deferred none)) := h1.trans (belowK_b (w := W5) (by omega) F D _ _ (by omega) hK' rfl rfl)
        exact HKB5.out.trans' h2 (Nat.le_refl _)

theorem total_c (B : Nat) (t : List Int) (M : Int) (w : World) (hB : B < w.heap.size) (hc : Cols w B t) (ht : t.length = 430) (hM : TB M t) (hM0 : 0 ≤ M) (hM1 : M ≤ 1000000000000) (hV0 : -(10 ^ 430) < val 10 t) (hV1 : val 10 t < 10 ^ 430) :
    Calls Tryz.prog 174 #[.pointer (some ⟨B, 0, none⟩)] w fun en w' => ∃ v ds, en = .returned v ∧ Amt w' v (decide (val 10 t < 0)) ds (-222) false ∧ InR 10 ds ∧ vd ds = ((val 10 t).natAbs : Int) ∧ ds.length = 430 ∧ Kb B w w' :=
  callsIn_wide.1 (total_in B t M w hB hc ht hM hM0 hM1 hV0 hV1)
end Go.Proofs.YtekbfommnmikbaaGreatDoor
