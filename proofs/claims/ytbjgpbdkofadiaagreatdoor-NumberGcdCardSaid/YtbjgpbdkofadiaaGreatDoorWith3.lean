/- with, for arrays of 3 strings. -/
import Derived.Test.YtbjgpbdkofadiaaGreatDoorWith
namespace Go.Proofs.YtbjgpbdkofadiaaGreatDoor
set_option linter.unusedVariables false
set_option linter.unusedSimpArgs false
open Go.RowKit Go.Shelf Go.Proofs

set_option maxRecDepth 100000 in
set_option maxHeartbeats 2000000 in
theorem with3_c (g : Nat) (lb : Array Value) (eg : ∀ args w, (callFunc g args).run Tryz.prog w = .ok (.enter g args) w) (v : Value) (l : List ByteArray) (o : List Int → Out) (w : World) (hl : Strs w v l) (hlen : l.length ≤ 10)
    (hok : ∀ zs r, AllNum l zs → o zs = .ok r → ∃ s0 s1 s2, r = .agg #[.string s0, .string s1, .string s2])
    (hf : ∀ zs, AllNum l zs → ∀ W lv, Below w.heap.size w W → Whs W lv zs → Calls Tryz.prog g (#[lv] ++ lb) W fun e w' => e = (o zs).end_ ∧ Below W.heap.size W w') :
    Calls Tryz.prog 68 #[.func (.func g) #[] lb, v] w (WithP l o (.agg #[.string ⟨#[]⟩, .string ⟨#[]⟩, .string ⟨#[]⟩]) w) := by
  obtain ⟨A, c, rfl, hs⟩ := hl
  have HS := Lib.hid hs
  have HFN := Lib.hid hf
  have HOK := Lib.hid hok
  clear hs hf hok
  go_enter_defers Tryz.func68, Tryz.ntmps68
  go_wp2_with fail
  obtain ⟨W, hW, k0, k1, f0, f1, hbel, hsz⟩ := boxes2 w #[.string ⟨#[]⟩, .string ⟨#[]⟩, .string ⟨#[]⟩] #[.int .i64 0] 87 24
  rw [hW]
  have c0 : W.cell? ⟨w.heap.size + 1, 0, none⟩ = some (.int .i64 0) := k1 0
  have f0' : W.frozen? ⟨w.heap.size + 1, 0, none⟩ = false := f1 0
  have r0 : W.cell? ⟨w.heap.size, 0, none⟩ = some (.string ⟨#[]⟩) := k0 0
  have g0 : W.frozen? ⟨w.heap.size, 0, none⟩ = false := f0 0
  have r1 : W.cell? ⟨w.heap.size, 1, none⟩ = some (.string ⟨#[]⟩) := k0 1
  have g1 : W.frozen? ⟨w.heap.size, 1, none⟩ = false := f0 1
  have r2 : W.cell? ⟨w.heap.size, 2, none⟩ = some (.string ⟨#[]⟩) := k0 2
  have g2 : W.frozen? ⟨w.heap.size, 2, none⟩ = false := f0 2
  have HBEL := Lib.hid hbel
  have HSZ : Hid (W.heap.size = w.heap.size + 1 + 1) := hsz
  clear k0 k1 f0 f1 hW hbel hsz
  go_wp2_with fail
  go_loopg [6, 11] l.length (fun gk lv iv wr => ∃ (i : Nat) (zs : List Int) (ps : List (Bool × Value)), iv = .int .i64 i ∧ i + gk = l.length ∧ Hid (Got (w.heap.size + 1 + 1) wr lv ps zs ∧ zs.length = i ∧ ∀ j, j < i → NumL (l[j]?.getD ⟨#[]⟩).data.toList (zs[j]?.getD 0)) ∧ wr.cell? ⟨w.heap.size + 1, 0, none⟩ = some (.int .i64 0) ∧ wr.frozen? ⟨w.heap.size + 1, 0, none⟩ = false ∧ wr.cell? ⟨w.heap.size, 0, none⟩ = some (.string ⟨#[]⟩) ∧ wr.frozen? ⟨w.heap.size, 0, none⟩ = false ∧ wr.cell? ⟨w.heap.size, 1, none⟩ = some (.string ⟨#[]⟩) ∧ wr.frozen? ⟨w.heap.size, 1, none⟩ = false ∧ wr.cell? ⟨w.heap.size, 2, none⟩ = some (.string ⟨#[]⟩) ∧ wr.frozen? ⟨w.heap.size, 2, none⟩ = false ∧ Hid (Below w.heap.size w wr) ∧ Hid (w.heap.size + 1 + 1 ≤ wr.heap.size))
  case atStart => exact ⟨0, [], [], rfl, by omega, ⟨Got.nil _ _, rfl, fun j h => absurd h (by omega)⟩, c0, f0', r0, g0, r1, g1, r2, g2, HBEL.out.to, by show _ ≤ _; rw [HSZ.out]; exact Nat.le_refl _⟩
  case round =>
    obtain ⟨i, zs, ps, rfl, hg, HG, b0, b1, p0, q0, p1, q1, p2, q2, HB, HZ⟩ := hrel
    clear c0 f0' r0 g0 r1 g1 r2 g2
    have HFAR : Hid (some (w.heap.size + 1) ≠ u6.ownBlock) := fun e => by have := (HG.out.1.own.lt _ e.symm).1; omega
    have HFAR0 : Hid (some w.heap.size ≠ u6.ownBlock) := fun e => by have := (HG.out.1.own.lt _ e.symm).1; omega
    by_cases hlt : i < l.length
    · obtain ⟨a, rfl, hc⟩ := HS.out i hlt
      have hc2 := keep_cell HB.out hc
      obtain ⟨S, hS⟩ : ∃ S, l[i]?.getD ⟨#[]⟩ = S := ⟨_, rfl⟩
      rw [hS] at hc2
      have HSE := Lib.hid hS
      clear hc hS
      by_cases hv : ∃ z, NumL S.data.toList z
      · obtain ⟨z, hz⟩ := hv
        have HZN := Lib.hid hz
        have HGK := Lib.hid hg
        have hpl : ps.length ≤ 10 := by have h1 := HG.out.1.len; have h2 := HG.out.2.1; omega
        clear hz hg
        go_wp2_with (first | (go_at_call 107; refine (read_ok S _ z HZN.out).mono ?_; rintro e W2 ⟨u, rfl, ⟨p, rfl, hd, hfr⟩, hbz⟩; have HD := Lib.hid hd; have HFR := Lib.hid hfr; obtain ⟨A6, n6, c6, rfl⟩ := hd.form; obtain ⟨bz, hbzz⟩ : ∃ bz, decide (z < 0) = bz := ⟨_, rfl⟩; rw [hbzz]; have HBZ := Lib.hid hbzz; have b1 := keep_free' hbz b0 b1; have b0 := keep_cell hbz b0; have q0 := keep_free' hbz p0 q0; have p0 := keep_cell hbz p0; have q1 := keep_free' hbz p1 q1; have p1 := keep_cell hbz p1; have q2 := keep_free' hbz p2 q2; have p2 := keep_cell hbz p2; have HG2 := Lib.hid (HG.out.1.below hbz); have HB2 := Lib.hid (below_then' HB.out hbz); have HSZ2 := Lib.hid hbz.size; have HB21 := Lib.hid (Nat.le_trans HZ.out hbz.size); clear hd hfr hbzz hbz) | (at_builtin; refine wp_push rfl _ _ rfl rfl HG.out.1 HG2.out rfl hpl HB21.out HBZ.out.symm HD.out HFR.out rfl ?_; intro v' w' hg3 hgrow hform; obtain ⟨g', cap, rfl⟩ := hform; have HG3 := Lib.hid hg3; have HGR := Lib.hid hgrow; clear hg3 hgrow))
        go_roundg (gk - 1)
        case measure => have := HGK.out; omega
        case rel =>
          refine ⟨i + 1, zs ++ [z], ps ++ [(bz, .slice A6 n6 c6)], by simp, by have := HGK.out; omega, ⟨HG3.out, by rw [List.length_append, HG.out.2.1]; rfl, fun j hj => ?_⟩, ?_, ?_, ?_, ?_, ?_, ?_, ?_, ?_, ?_, ?_⟩
          · rcases Nat.lt_or_ge j i with h | h
            · rw [List.getElem?_append_left (by rw [HG.out.2.1]; exact h)]; exact HG.out.2.2 j h
            · obtain rfl : j = i := by omega
              rw [List.getElem?_append_right (by rw [HG.out.2.1]; exact Nat.le_refl _), HG.out.2.1, Nat.sub_self, HSE.out]
              exact HZN.out
          · exact (HGR.out.cell_far ⟨w.heap.size + 1, 0, none⟩ (by have := HB21.out; simp; omega) HFAR.out).trans (keep_cell ((Below.refl _ _).alloc (Nat.le_refl _) _) b0)
          · exact (HGR.out.frozen_far ⟨w.heap.size + 1, 0, none⟩ (by have := HB21.out; simp; omega) HFAR.out).trans (keep_free' ((Below.refl _ _).alloc (Nat.le_refl _) _) b0 b1)
          · exact (HGR.out.cell_far ⟨w.heap.size, 0, none⟩ (by have := HB21.out; simp; omega) HFAR0.out).trans (keep_cell ((Below.refl _ _).alloc (Nat.le_refl _) _) p0)
          · exact (HGR.out.frozen_far ⟨w.heap.size, 0, none⟩ (by have := HB21.out; simp; omega) HFAR0.out).trans (keep_free' ((Below.refl _ _).alloc (Nat.le_refl _) _) p0 q0)
          · exact (HGR.out.cell_far ⟨w.heap.size, 1, none⟩ (by have := HB21.out; simp; omega) HFAR0.out).trans (keep_cell ((Below.refl _ _).alloc (Nat.le_refl _) _) p1)
          · exact (HGR.out.frozen_far ⟨w.heap.size, 1, none⟩ (by have := HB21.out; simp; omega) HFAR0.out).trans (keep_free' ((Below.refl _ _).alloc (Nat.le_refl _) _) p1 q1)
          · exact (HGR.out.cell_far ⟨w.heap.size, 2, none⟩ (by have := HB21.out; simp; omega) HFAR0.out).trans (keep_cell ((Below.refl _ _).alloc (Nat.le_refl _) _) p2)
          · exact (HGR.out.frozen_far ⟨w.heap.size, 2, none⟩ (by have := HB21.out; simp; omega) HFAR0.out).trans (keep_free' ((Below.refl _ _).alloc (Nat.le_refl _) _) p2 q2)
          · exact (HB2.out.alloc HB2.out.size _).grown HGR.out (by have := HB2.out.size; simp; omega) (fun k hk => by have := (HG2.out.own.lt k hk).1; omega)
          · show _ ≤ _
            have h1 := HB21.out; have h3 := HGR.out.size
            simp at h3; omega
      · have HNV := Lib.hid hv
        have HNO : Hid (¬ ∃ zs, AllNum l zs) := by
          rintro ⟨zs', h1, h2⟩
          have := h2 i hlt
          rw [HSE.out] at this
          exact hv ⟨_, this⟩
        clear hv hg
        go_wp2_with (go_at_call 107; refine (read_bad S _ HNV.out).mono ?_; rintro e W2 ⟨rfl, hbz⟩; have b1 := keep_free' hbz b0 b1; have b0 := keep_cell hbz b0; have q0 := keep_free' hbz p0 q0; have p0 := keep_cell hbz p0; have q1 := keep_free' hbz p1 q1; have p1 := keep_cell hbz p1; have q2 := keep_free' hbz p2 q2; have p2 := keep_cell hbz p2; have HB2 := Lib.hid (below_then' HB.out hbz); clear hbz)
        refine leaves_cons (f := 87) (args := #[.pointer (some ⟨w.heap.size + 1, 0, none⟩)]) (by simp) (by simp [go_sem]) ?_
        refine (guard_panic ⟨w.heap.size + 1, 0, none⟩ 1 (.int .i64 0) _ b0 b1).mono ?_
        rintro e u' w'' ⟨rfl, rfl, rfl⟩
        have r0 := set_same (.int .i64 1) (keep_cell ((Below.refl _ W2).alloc (Nat.le_refl _) (.cells #[.int .i64 1] 77)) b0)
        have t0 := set_far (a := ⟨w.heap.size + 1, 0, none⟩) (.int .i64 1) (by simp) (keep_cell ((Below.refl _ W2).alloc (Nat.le_refl _) (.cells #[.int .i64 1] 77)) p0)
        have t1 := set_far (a := ⟨w.heap.size + 1, 0, none⟩) (.int .i64 1) (by simp) (keep_cell ((Below.refl _ W2).alloc (Nat.le_refl _) (.cells #[.int .i64 1] 77)) p1)
        have t2 := set_far (a := ⟨w.heap.size + 1, 0, none⟩) (.int .i64 1) (by simp) (keep_cell ((Below.refl _ W2).alloc (Nat.le_refl _) (.cells #[.int .i64 1] 77)) p2)
        simp [Leaves, settle, results, Tryz.results68, go_sem, r0, t0, t1, t2]
        exact ⟨.inr ⟨HNO.out, rfl⟩, (HB2.out.alloc HB2.out.size _).setCell (p := ⟨w.heap.size + 1, 0, none⟩) (by simp) _⟩
    · obtain rfl : i = l.length := by omega
      have HAN : Hid (AllNum l zs) := ⟨HG.out.2.1.symm, HG.out.2.2⟩
      have hcc := HFN.out zs HAN.out wr u6 HB.out HG.out.1.whs
      cases ho : o zs with
      | ok r =>
        obtain ⟨s0, s1, s2, rfl⟩ := HOK.out zs r HAN.out ho
        have HOO := Lib.hid ho
        rw [ho] at hcc
        have HC : Hid (Calls Tryz.prog g (#[u6] ++ lb) wr fun e w' => e = .returned (.agg #[.string s0, .string s1, .string s2]) ∧ Below wr.heap.size wr w') := hcc
        clear ho hg hlt hcc
        go_wp2_with (go_at_fn g; refine HC.out.mono ?_; rintro e W2 ⟨rfl, hbz⟩; have b1 := keep_free' hbz b0 b1; have b0 := keep_cell hbz b0; have q0 := keep_free' hbz p0 q0; have p0 := keep_cell hbz p0; have q1 := keep_free' hbz p1 q1; have p1 := keep_cell hbz p1; have q2 := keep_free' hbz p2 q2; have p2 := keep_cell hbz p2; have HB2 := Lib.hid (below_then' HB.out hbz); clear hbz)
        refine leaves_cons (f := 87) (args := #[.pointer (some ⟨w.heap.size + 1, 0, none⟩)]) (by simp) (by simp [go_sem]) ?_
        refine (guard_idle ⟨w.heap.size + 1, 0, none⟩ _).mono ?_
        rintro e u' w'' ⟨rfl, rfl, rfl⟩
        have t0 := (set_far (a := ⟨w.heap.size + 1, 0, none⟩) (.int .i64 0) (by simp) (set_other (a := ⟨w.heap.size, 2, none⟩) (.string s2) (by simp) (set_other (a := ⟨w.heap.size, 1, none⟩) (.string s1) (by simp) (set_same (.string s0) p0))))
        have t1 := (set_far (a := ⟨w.heap.size + 1, 0, none⟩) (.int .i64 0) (by simp) (set_other (a := ⟨w.heap.size, 2, none⟩) (.string s2) (by simp) (set_same (.string s1) (set_other (a := ⟨w.heap.size, 0, none⟩) (.string s0) (by simp) p1))))
        have t2 := (set_far (a := ⟨w.heap.size + 1, 0, none⟩) (.int .i64 0) (by simp) (set_same (.string s2) (set_other (a := ⟨w.heap.size, 1, none⟩) (.string s1) (by simp) (set_other (a := ⟨w.heap.size, 0, none⟩) (.string s0) (by simp) p2))))
        have r0 := set_same (.int .i64 0) (set_far (a := ⟨w.heap.size, 2, none⟩) (.string s2) (by simp) (set_far (a := ⟨w.heap.size, 1, none⟩) (.string s1) (by simp) (set_far (a := ⟨w.heap.size, 0, none⟩) (.string s0) (by simp) b0)))
        simp [Leaves, settle, results, Tryz.results68, go_sem, r0, t0, t1, t2]
        exact ⟨.inl ⟨zs, HAN.out, by rw [HOO.out]; rfl⟩, ((((HB2.out.setCell (p := ⟨w.heap.size, 0, none⟩) (Nat.le_refl _) _).setCell (p := ⟨w.heap.size, 1, none⟩) (Nat.le_refl _) _).setCell (p := ⟨w.heap.size, 2, none⟩) (Nat.le_refl _) _).setCell (p := ⟨w.heap.size + 1, 0, none⟩) (by simp) _)⟩
      | err k =>
        have HOO := Lib.hid ho
        rw [ho] at hcc
        have HC : Hid (Calls Tryz.prog g (#[u6] ++ lb) wr fun e w' => e = .panicked (failChain k) ∧ Below wr.heap.size wr w') := hcc
        clear ho hg hlt hcc
        go_wp2_with (go_at_fn g; refine HC.out.mono ?_; rintro e W2 ⟨rfl, hbz⟩; have b1 := keep_free' hbz b0 b1; have b0 := keep_cell hbz b0; have q0 := keep_free' hbz p0 q0; have p0 := keep_cell hbz p0; have q1 := keep_free' hbz p1 q1; have p1 := keep_cell hbz p1; have q2 := keep_free' hbz p2 q2; have p2 := keep_cell hbz p2; have HB2 := Lib.hid (below_then' HB.out hbz); clear hbz)
        refine leaves_cons (f := 87) (args := #[.pointer (some ⟨w.heap.size + 1, 0, none⟩)]) (by simp) (by simp [go_sem]) ?_
        refine (guard_panic ⟨w.heap.size + 1, 0, none⟩ k (.int .i64 0) _ b0 b1).mono ?_
        rintro e u' w'' ⟨rfl, rfl, rfl⟩
        have r0 := set_same (.int .i64 k) (keep_cell ((Below.refl _ W2).alloc (Nat.le_refl _) (.cells #[.int .i64 k] 77)) b0)
        have t0 := set_far (a := ⟨w.heap.size + 1, 0, none⟩) (.int .i64 k) (by simp) (keep_cell ((Below.refl _ W2).alloc (Nat.le_refl _) (.cells #[.int .i64 k] 77)) p0)
        have t1 := set_far (a := ⟨w.heap.size + 1, 0, none⟩) (.int .i64 k) (by simp) (keep_cell ((Below.refl _ W2).alloc (Nat.le_refl _) (.cells #[.int .i64 k] 77)) p1)
        have t2 := set_far (a := ⟨w.heap.size + 1, 0, none⟩) (.int .i64 k) (by simp) (keep_cell ((Below.refl _ W2).alloc (Nat.le_refl _) (.cells #[.int .i64 k] 77)) p2)
        simp [Leaves, settle, results, Tryz.results68, go_sem, r0, t0, t1, t2]
        exact ⟨.inl ⟨zs, HAN.out, by rw [HOO.out]; rfl⟩, (HB2.out.alloc HB2.out.size _).setCell (p := ⟨w.heap.size + 1, 0, none⟩) (by simp) _⟩

end Go.Proofs.YtbjgpbdkofadiaaGreatDoor
