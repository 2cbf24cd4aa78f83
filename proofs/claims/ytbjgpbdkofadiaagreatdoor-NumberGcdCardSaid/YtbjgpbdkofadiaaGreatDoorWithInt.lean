/- with, for ints. -/
import Derived.Test.YtbjgpbdkofadiaaGreatDoorWith
namespace Go.Proofs.YtbjgpbdkofadiaaGreatDoor
set_option linter.unusedVariables false
set_option linter.unusedSimpArgs false
open Go.RowKit Go.Shelf Go.Proofs

set_option maxRecDepth 100000 in
set_option maxHeartbeats 2000000 in
theorem withInt_c (g : Nat) (lb : Array Value) (eg : ∀ args w, (callFunc g args).run Tryz.prog w = .ok (.enter g args) w) (v : Value) (l : List ByteArray) (o : List Int → Out) (w : World) (hl : Strs w v l) (hlen : l.length ≤ 10)
    (hf : ∀ zs, AllNum l zs → ∀ W lv, Below w.heap.size w W → Whs W lv zs → Calls Tryz.prog g (#[lv] ++ lb) W fun e w' => e = (o zs).end_ ∧ Below W.heap.size W w') :
    Calls Tryz.prog 96 #[.func (.func g) #[] lb, v] w (WithP l o (.int .i64 0) w) := by
  obtain ⟨A, c, rfl, hs⟩ := hl
  have HS := Lib.hid hs
  have HFN := Lib.hid hf
  clear hs hf
  go_enter_defers Tryz.func96, Tryz.ntmps96
  go_wp2_with fail
  obtain ⟨W, hW, k0, f0, hbel, hsz⟩ := boxes1 w #[.int .i64 0] 24
  rw [hW]
  have c0 : W.cell? ⟨w.heap.size, 0, none⟩ = some (.int .i64 0) := k0 0
  have f0' : W.frozen? ⟨w.heap.size, 0, none⟩ = false := f0 0
  have HBEL := Lib.hid hbel
  have HSZ : Hid (W.heap.size = w.heap.size + 1) := hsz
  clear k0 f0 hW hbel hsz
  go_wp2_with fail
  go_loopg [6, 11] l.length (fun gk lv iv wr => ∃ (i : Nat) (zs : List Int) (ps : List (Bool × Value)), iv = .int .i64 i ∧ i + gk = l.length ∧ Hid (Got (w.heap.size + 1) wr lv ps zs ∧ zs.length = i ∧ ∀ j, j < i → NumL (l[j]?.getD ⟨#[]⟩).data.toList (zs[j]?.getD 0)) ∧ wr.cell? ⟨w.heap.size, 0, none⟩ = some (.int .i64 0) ∧ wr.frozen? ⟨w.heap.size, 0, none⟩ = false ∧ Hid (Below w.heap.size w wr) ∧ Hid (w.heap.size + 1 ≤ wr.heap.size))
  case atStart => exact ⟨0, [], [], rfl, by omega, ⟨Got.nil _ _, rfl, fun j h => absurd h (by omega)⟩, c0, f0', HBEL.out.to, by show _ ≤ _; rw [HSZ.out]; exact Nat.le_refl _⟩
  case round =>
    obtain ⟨i, zs, ps, rfl, hg, HG, b0, b1, HB, HZ⟩ := hrel
    clear c0 f0'
    have HFAR : Hid (some w.heap.size ≠ u6.ownBlock) := fun e => by have := (HG.out.1.own.lt _ e.symm).1; omega
    by_cases hlt : i < l.length
    · obtain ⟨a, rfl, hc⟩ := HS.out i hlt
      have hc2 := keep_cell HB.out hc
      obtain ⟨S, hS⟩ : ∃ S, l[i]?.getD ⟨#[]⟩ = S := ⟨_, rfl⟩
      rw [hS] at hc2
      have HSE := Lib.hid hS
      clear hc hS
      by_cases hv : ∃ z, NumL S.data.toList z
      · obtain ⟨z, hz⟩ := hv
        have HZN := Lib.hid hz
        have HGK := Lib.hid hg
        have hpl : ps.length ≤ 10 := by have h1 := HG.out.1.len; have h2 := HG.out.2.1; omega
        clear hz hg
        go_wp2_with (first | (go_at_call 107; refine (read_ok S _ z HZN.out).mono ?_; rintro e W2 ⟨u, rfl, ⟨p, rfl, hd, hfr⟩, hbz⟩; have HD := Lib.hid hd; have HFR := Lib.hid hfr; obtain ⟨A6, n6, c6, rfl⟩ := hd.form; obtain ⟨bz, hbzz⟩ : ∃ bz, decide (z < 0) = bz := ⟨_, rfl⟩; rw [hbzz]; have HBZ := Lib.hid hbzz; have b1 := keep_free' hbz b0 b1; have b0 := keep_cell hbz b0; have HG2 := Lib.hid (HG.out.1.below hbz); have HB2 := Lib.hid (below_then' HB.out hbz); have HSZ2 := Lib.hid hbz.size; have HB21 := Lib.hid (Nat.le_trans HZ.out hbz.size); clear hd hfr hbzz hbz) | (at_builtin; refine wp_push rfl _ _ rfl rfl HG.out.1 HG2.out rfl hpl HB21.out HBZ.out.symm HD.out HFR.out rfl ?_; intro v' w' hg3 hgrow hform; obtain ⟨g', cap, rfl⟩ := hform; have HG3 := Lib.hid hg3; have HGR := Lib.hid hgrow; clear hg3 hgrow))
        go_roundg (gk - 1)
        case measure => have := HGK.out; omega
        case rel =>
          refine ⟨i + 1, zs ++ [z], ps ++ [(bz, .slice A6 n6 c6)], by simp, by have := HGK.out; omega, ⟨HG3.out, by rw [List.length_append, HG.out.2.1]; rfl, fun j hj => ?_⟩, ?_, ?_, ?_, ?_⟩
          · rcases Nat.lt_or_ge j i with h | h
            · rw [List.getElem?_append_left (by rw [HG.out.2.1]; exact h)]; exact HG.out.2.2 j h
            · obtain rfl : j = i := by omega
              rw [List.getElem?_append_right (by rw [HG.out.2.1]; exact Nat.le_refl _), HG.out.2.1, Nat.sub_self, HSE.out]
              exact HZN.out
          · exact (HGR.out.cell_far ⟨w.heap.size, 0, none⟩ (by have := HB21.out; simp; omega) HFAR.out).trans (keep_cell ((Below.refl _ _).alloc (Nat.le_refl _) _) b0)
          · exact (HGR.out.frozen_far ⟨w.heap.size, 0, none⟩ (by have := HB21.out; simp; omega) HFAR.out).trans (keep_free' ((Below.refl _ _).alloc (Nat.le_refl _) _) b0 b1)
          · exact (HB2.out.alloc HB2.out.size _).grown HGR.out (by have := HB2.out.size; simp; omega) (fun k hk => Nat.le_of_succ_le (HG2.out.own.lt k hk).1)
          · show _ ≤ _
            have h1 := HB21.out; have h3 := HGR.out.size
            simp at h3; omega
      · have HNV := Lib.hid hv
        have HNO : Hid (¬ ∃ zs, AllNum l zs) := by
          rintro ⟨zs', h1, h2⟩
          have := h2 i hlt
          rw [HSE.out] at this
          exact hv ⟨_, this⟩
        clear hv hg
        go_wp2_with (go_at_call 107; refine (read_bad S _ HNV.out).mono ?_; rintro e W2 ⟨rfl, hbz⟩; have b1 := keep_free' hbz b0 b1; have b0 := keep_cell hbz b0; have HB2 := Lib.hid (below_then' HB.out hbz); clear hbz)
        refine leaves_cons (f := 87) (args := #[.pointer (some ⟨w.heap.size, 0, none⟩)]) (by simp) (by simp [go_sem]) ?_
        refine (guard_panic ⟨w.heap.size, 0, none⟩ 1 (.int .i64 0) _ b0 b1).mono ?_
        rintro e u' w'' ⟨rfl, rfl, rfl⟩
        have r0 := set_same (.int .i64 1) (keep_cell ((Below.refl _ W2).alloc (Nat.le_refl _) (.cells #[.int .i64 1] 77)) b0)
        simp [Leaves, settle, results, Tryz.results96, go_sem, r0]
        exact ⟨.inr ⟨HNO.out, rfl⟩, (HB2.out.alloc HB2.out.size _).setCell (p := ⟨w.heap.size, 0, none⟩) (Nat.le_refl _) _⟩
    · obtain rfl : i = l.length := by omega
      have HAN : Hid (AllNum l zs) := ⟨HG.out.2.1.symm, HG.out.2.2⟩
      have hcc := HFN.out zs HAN.out wr u6 HB.out HG.out.1.whs
      cases ho : o zs with
      | ok r =>
        have HOO := Lib.hid ho
        rw [ho] at hcc
        have HC : Hid (Calls Tryz.prog g (#[u6] ++ lb) wr fun e w' => e = .returned r ∧ Below wr.heap.size wr w') := hcc
        clear ho hg hlt hcc
        go_wp2_with (go_at_fn g; refine HC.out.mono ?_; rintro e W2 ⟨rfl, hbz⟩; have b1 := keep_free' hbz b0 b1; have b0 := keep_cell hbz b0; have HB2 := Lib.hid (below_then' HB.out hbz); clear hbz)
        refine leaves_cons (f := 87) (args := #[.pointer (some ⟨w.heap.size, 0, none⟩)]) (by simp) (by simp [go_sem]) ?_
        refine (guard_idle ⟨w.heap.size, 0, none⟩ _).mono ?_
        rintro e u' w'' ⟨rfl, rfl, rfl⟩
        have r0 := set_same (.int .i64 0) b0
        simp [Leaves, settle, results, Tryz.results96, go_sem, r0]
        exact ⟨.inl ⟨zs, HAN.out, by rw [HOO.out]; rfl⟩, HB2.out.setCell (p := ⟨w.heap.size, 0, none⟩) (Nat.le_refl _) _⟩
      | err k =>
        have HOO := Lib.hid ho
        rw [ho] at hcc
        have HC : Hid (Calls Tryz.prog g (#[u6] ++ lb) wr fun e w' => e = .panicked (failChain k) ∧ Below wr.heap.size wr w') := hcc
        clear ho hg hlt hcc
        go_wp2_with (go_at_fn g; refine HC.out.mono ?_; rintro e W2 ⟨rfl, hbz⟩; have b1 := keep_free' hbz b0 b1; have b0 := keep_cell hbz b0; have HB2 := Lib.hid (below_then' HB.out hbz); clear hbz)
        refine leaves_cons (f := 87) (args := #[.pointer (some ⟨w.heap.size, 0, none⟩)]) (by simp) (by simp [go_sem]) ?_
        refine (guard_panic ⟨w.heap.size, 0, none⟩ k (.int .i64 0) _ b0 b1).mono ?_
        rintro e u' w'' ⟨rfl, rfl, rfl⟩
        have r0 := set_same (.int .i64 k) (keep_cell ((Below.refl _ W2).alloc (Nat.le_refl _) (.cells #[.int .i64 k] 77)) b0)
        simp [Leaves, settle, results, Tryz.results96, go_sem, r0]
        exact ⟨.inl ⟨zs, HAN.out, by rw [HOO.out]; rfl⟩, (HB2.out.alloc HB2.out.size _).setCell (p := ⟨w.heap.size, 0, none⟩) (Nat.le_refl _) _⟩

end Go.Proofs.YtbjgpbdkofadiaaGreatDoor
