/- The reference's FromBase. -/
import Derived.Test.YtbjgpbdkofadiaaGreatDoorRefV
namespace Go.Proofs.YtbjgpbdkofadiaaGreatDoor
set_option linter.unusedVariables false
set_option linter.unusedSimpArgs false
open Go.RowKit Go.Shelf

theorem sign_at : ∀ k : Fin 36, (ByteArray.mk #[48, 49, 50, 51, 52, 53, 54, 55, 56, 57, 97, 98, 99, 100, 101, 102, 103, 104, 105, 106, 107, 108, 109, 110, 111, 112, 113, 114, 115, 116, 117, 118, 119, 120, 121, 122])[k.1]'(k.2) = chr k.1 := by decide +kernel
theorem sign_get (k : Nat) (hk : k < 36) (h : k < (ByteArray.mk #[48, 49, 50, 51, 52, 53, 54, 55, 56, 57, 97, 98, 99, 100, 101, 102, 103, 104, 105, 106, 107, 108, 109, 110, 111, 112, 113, 114, 115, 116, 117, 118, 119, 120, 121, 122]).size) : (ByteArray.mk #[48, 49, 50, 51, 52, 53, 54, 55, 56, 57, 97, 98, 99, 100, 101, 102, 103, 104, 105, 106, 107, 108, 109, 110, 111, 112, 113, 114, 115, 116, 117, 118, 119, 120, 121, 122])[k]'h = chr k := sign_at ⟨k, hk⟩
theorem bval_lt {b : Nat} : ∀ (n : Nat) (l : List UInt8), l.length = n → bdigs b l → bval b l < b ^ l.length := by
  intro n
  induction n with
  | zero =>
    intro l hl _
    rw [List.eq_nil_of_length_eq_zero hl]; simp [bval]
  | succ n ih =>
    intro l hl h
    have hne : l ≠ [] := by intro e; rw [e] at hl; simp at hl
    obtain ⟨m, c, rfl⟩ : ∃ m c, l = m ++ [c] := ⟨l.dropLast, l.getLast hne, (List.dropLast_concat_getLast hne).symm⟩
    have h1 := ih m (by simpa using hl) (fun x hx => h x (List.mem_append_left _ hx))
    obtain ⟨d, h2, h3⟩ := h c (by simp)
    rw [bval_snoc, h2, List.length_append, List.length_singleton, Nat.pow_succ]
    have h4 : bval b m + 1 ≤ b ^ m.length := h1
    have h5 := Nat.mul_le_mul_right b h4
    rw [Nat.add_mul] at h5
    simp only [Option.getD_some]
    omega
theorem bval_len {b : Nat} (hb2 : b ≤ 36) {l : List UInt8} (h : bdigs b l) : (dg 10 (bval b l)).length ≤ 2 * l.length := by
  refine (dg_length_le (by decide) _ _).2 (Nat.lt_of_lt_of_le (bval_lt _ l rfl h) ?_)
  rw [Nat.pow_mul]
  exact Nat.pow_le_pow_left (by omega) _

/-- What FromBase returns. -/
def RFromP (b : Nat) (l : List UInt8) (w : World) (e : Ending) (w' : World) : Prop :=
  ((formB b l ∧ ∃ A n c sg, e = .returned (.agg #[.slice A n c, .bool sg, .int .i64 0]) ∧ Ri w' (.agg #[.slice A n c, .bool sg]) (fromB b l)) ∨ (¬ formB b l ∧ e = .returned (.agg #[.slice none 0 0, .bool false, .int .i64 7]))) ∧ Below w.heap.size w w'
/-- Digits behind a sign, as they may stand. -/
def headD (ng : Bool) (d : List UInt8) : Prop := d ≠ [] ∧ ¬ (d.head? = some 48 ∧ (1 < d.length ∨ ng = true))
def okD (b : Nat) (ng : Bool) (d : List UInt8) : Prop := headD ng d ∧ bdigs b d
/-- .. of the digits d behind a sign. -/
def RFromD (b : Nat) (ng : Bool) (d : List UInt8) (w : World) (e : Ending) (w' : World) : Prop :=
  ((okD b ng d ∧ ∃ A n c, e = .returned (.agg #[.slice A n c, .bool ng, .int .i64 0]) ∧ Dg 10 w' (.slice A n c) (bval b d)) ∨ (¬ okD b ng d ∧ e = .returned (.agg #[.slice none 0 0, .bool false, .int .i64 7]))) ∧ Below w.heap.size w w'
theorem list_head {S : ByteArray} (h : 0 < S.size) : S.data.toList.head? = some S[0] := by
  have hl : 0 < S.data.toList.length := by rw [Array.length_toList]; exact h
  rw [List.head?_eq_getElem?, List.getElem?_eq_getElem hl]; rfl

set_option maxRecDepth 100000 in
set_option maxHeartbeats 4000000 in
theorem rfrombase_ne (S D : ByteArray) (ng : Bool) (b : Nat) (w : World) (hS : S.size ≤ 1000) (hb : 2 ≤ b) (hb2 : b ≤ 36) (h0 : 0 < S.size) (hng : ((S[0].toNat : Int) == 45) = ng) (hD : D = if ng then S.extract 1 S.size else S) :
    Calls Tryz.prog 39 #[.string S, .int .i64 (b : Int)] w (RFromD b ng D.data.toList w) := by
  have h36 : (36 : Nat) < 10 ^ 200 := by decide
  have hNB : ∀ k : Nat, k ≤ 36 → NumL (Lib.itoa (k : Int)) (k : Int) := fun k hk => ⟨rfl, by rw [Int.natAbs_natCast]; exact Nat.lt_of_le_of_lt hk h36⟩
  have HNB := Lib.hid hNB
  clear h36 hNB
  have HD := Lib.hid hD
  have hds : D.size ≤ 1000 := by
    rw [hD]
    split
    · have e := congrArg List.length (ext_list S 1 S.size)
      rw [List.length_drop, List.length_take, Array.length_toList, Array.length_toList] at e
      have e2 : (S.extract 1 S.size).data.size = (S.extract 1 S.size).size := rfl
      have e3 : S.data.size = S.size := rfl
      omega
    · exact hS
  have HBB := Lib.hid (And.intro hb hb2)
  clear hD hb hb2
  go_enter Tryz.func39, Tryz.ntmps39
  go_upto_if 18 with fail
  obtain ⟨W, hW, k0, k1, hbel, hsz⟩ : ∃ W, w.alloc (.cells #[.slice none 0 0, .bool false, .int .i64 0] 55) = W ∧ W.heap[w.heap.size]? = some (.cells #[.slice none 0 0, .bool false, .int .i64 0] 55 (0, 0)) ∧ True ∧ Below w.heap.size w W ∧ w.heap.size < W.heap.size :=
    ⟨_, rfl, heap_alloc_new _ _, trivial, (Below.refl _ _).alloc (Nat.le_refl _) _, by simp⟩
  rw [hW]
  have HBOX := Lib.hid k0; have HBEL := Lib.hid hbel
  clear hW k0 k1 hbel
  go_cut [0] from 18 to 20 (fun v wx => v = .string D ∧ wx = W)
  case first =>
    cases ng
    · go_wp2_with fail
      go_meet
      exact ⟨by rw [HD.out]; rfl, rfl⟩
    · go_wp2_with fail
      go_meet
      exact ⟨by rw [HD.out]; rfl, rfl⟩
  case rest =>
    obtain ⟨rfl, rfl⟩ := hcut
    have b0 := cell_of_heap HBOX.out 0; have b1 := cell_of_heap HBOX.out 1; have b2 := cell_of_heap HBOX.out 2
    have f0 := free_of_heap HBOX.out 0; have f1 := free_of_heap HBOX.out 1; have f2 := free_of_heap HBOX.out 2
    simp at b0 b1 b2
    by_cases hd0 : D.size = 0
    · have HE : Hid (D.data.toList = []) := List.eq_nil_of_length_eq_zero (by rw [Array.length_toList]; exact hd0)
      have hlt : (D.size : Int) < 1 := by omega
      have hdl : decide ((D.size : Int) < 1) = true := decide_eq_true hlt
      clear hd0
      go_wp2_with fail
      refine bodyPost_ret (v := .agg #[.slice none 0 0, .bool false, .int .i64 7]) (by simp [results, Tryz.results39, go_sem, b0, b1, b2]) rfl ?_
      exact ⟨.inr ⟨fun h => h.1.1 HE.out, rfl⟩, ((HBEL.out.setCell (p := ⟨w.heap.size, 0, none⟩) (Nat.le_refl _) _).setCell (p := ⟨w.heap.size, 1, none⟩) (Nat.le_refl _) _).setCell (p := ⟨w.heap.size, 2, none⟩) (Nat.le_refl _) _⟩
    · have hdp : 0 < D.size := by omega
      have hdl : decide ((D.size : Int) < 1) = false := decide_eq_false (by omega)
      have HHD := Lib.hid (list_head hdp)
      have HLEN : Hid (D.data.toList.length = D.size) := Array.length_toList
      have hlt : ¬ (D.size : Int) < 1 := by omega
      by_cases h48 : D[0] = 48 ∧ (1 < D.size ∨ ng = true)
      · have HNO : Hid (¬ okD b ng D.data.toList) := fun h => h.1.2 ⟨by rw [HHD.out, h48.1], by rw [HLEN.out]; exact h48.2⟩
        have h481 : ((D[0].toNat : Int) == 48) = true := by rw [h48.1]; rfl
        by_cases h1 : 1 < D.size
        · have h11 : decide (1 < (D.size : Int)) = true := decide_eq_true (by omega)
          have h12 : (1 : Int) < (D.size : Int) := by omega
          clear h48 hd0
          go_wp2_with fail
          refine bodyPost_ret (v := .agg #[.slice none 0 0, .bool false, .int .i64 7]) (by simp [results, Tryz.results39, go_sem, b0, b1, b2]) rfl ?_
          exact ⟨.inr ⟨HNO.out, rfl⟩, ((HBEL.out.setCell (p := ⟨w.heap.size, 0, none⟩) (Nat.le_refl _) _).setCell (p := ⟨w.heap.size, 1, none⟩) (Nat.le_refl _) _).setCell (p := ⟨w.heap.size, 2, none⟩) (Nat.le_refl _) _⟩
        · obtain rfl : ng = true := h48.2.resolve_left h1
          have h11 : decide (1 < (D.size : Int)) = false := decide_eq_false (by omega)
          have h12 : ¬ (1 : Int) < (D.size : Int) := by omega
          clear h48 hd0
          go_wp2_with fail
          refine bodyPost_ret (v := .agg #[.slice none 0 0, .bool false, .int .i64 7]) (by simp [results, Tryz.results39, go_sem, b0, b1, b2]) rfl ?_
          exact ⟨.inr ⟨HNO.out, rfl⟩, ((HBEL.out.setCell (p := ⟨w.heap.size, 0, none⟩) (Nat.le_refl _) _).setCell (p := ⟨w.heap.size, 1, none⟩) (Nat.le_refl _) _).setCell (p := ⟨w.heap.size, 2, none⟩) (Nat.le_refl _) _⟩
      · have HYES : Hid (headD ng D.data.toList) := by
          refine ⟨fun e => ?_, fun ⟨h1, h2⟩ => h48 ⟨?_, ?_⟩⟩
          · have := HLEN.out; rw [e] at this; simp at this; omega
          · rw [HHD.out] at h1; exact Option.some.inj h1
          · rw [HLEN.out] at h2; exact h2
        have hfn := fld_n
        have HW0 := Lib.hid (Below.refl wc.heap.size wc)
        have HLOOP : Hid (((D[0].toNat : Int) == 48) = false ∨ (((D[0].toNat : Int) == 48) = true ∧ ¬ 1 < D.size ∧ ng = false)) := by
          show _ ∨ _
          by_cases e : D[0] = 48
          · refine .inr ⟨by rw [e]; rfl, fun h => h48 ⟨e, .inl h⟩, ?_⟩
            cases ng
            · rfl
            · exact absurd ⟨e, .inr rfl⟩ h48
          · refine .inl ?_
            rw [beq_eq_false_iff_ne]
            intro h
            refine e (UInt8.toNat_inj.1 ?_)
            have : (48 : UInt8).toNat = 48 := rfl
            omega
        clear h48 hd0
        go_upto_region 4 with fail
        go_cut [36] from 21 to 36 (fun v wx => v = .bool false ∧ wx = wc)
        case first =>
          rcases HLOOP.out with h | ⟨h, h2, rfl⟩
          · go_wp2_with fail
            go_meet
            exact ⟨rfl, rfl⟩
          · have h11 : decide (1 < (D.size : Int)) = false := decide_eq_false (by omega)
            have h12 : ¬ (1 : Int) < (D.size : Int) := by omega
            go_wp2_with fail
            go_meet
            exact ⟨rfl, rfl⟩
        case rest =>
          obtain ⟨rfl, hwx⟩ := hcut
          subst hwx
          go_wp2_with (first
            | (go_at_call 53; (with_reducible refine (rfromint_c (b : Int) _ (by have := HBB.out; omega) (by have := HBB.out; omega)).mono ?_); rintro e W2 ⟨rfl, hbz⟩; have HB2 := Lib.hid hbz; clear hbz)
            | (go_at_call 23; (with_reducible refine (rof_c _ (b : Int) _ (HNB.out b HBB.out.2)).mono ?_); rintro e W3 ⟨u, rfl, hu, hbz⟩; obtain ⟨A2, n2, c2, b2', rfl⟩ := hu.form; have HU := Lib.hid hu; have HB3 := Lib.hid (below_then' HB2.out hbz); clear hbz hu))
          have HDB : Hid (Dg 10 W3 (.slice A2 n2 c2) b) := by
            obtain ⟨p, e, hp⟩ := HU.out
            simp at e
            show Dg 10 W3 _ _
            rw [e.1]; exact hp
          have HB30 := Lib.hid (below_then HBEL.out HB3.out (by omega))
          have HBX3 := Lib.hid (heap_below HBOX.out HB3.out)
          have HLB : Hid ((dg 10 b).length ≤ 1000000) := Nat.le_trans ((dg_length_le (b := 10) (by decide) b 2).2 (by have := HBB.out; omega)) (by decide)
          clear HLOOP b0 b1 b2 f0 f1 f2
          go_loopg [7, 8] D.size (fun g nv iv wr => ∃ i : Nat, iv = .int .i64 (i : Int) ∧ i + g = D.size ∧ Hid (Dg 10 wr nv (bval b (D.data.toList.take i))) ∧ Hid (bdigs b (D.data.toList.take i)) ∧ Hid (FromB W3.heap.size nv) ∧ Hid (Below W3.heap.size W3 wr))
          case atStart => exact ⟨0, rfl, by omega, by show Dg _ _ _ _; rw [List.take_zero, bval_nil]; exact Dg.zero (by decide) _, fun c hc => (by simp at hc), fun k hk => (by cases hk), Below.refl _ _⟩
          case round =>
            obtain ⟨i, rfl, hi, HDN, HDS, HFN, HW⟩ := hrel
            have HI := Lib.hid hi
            have HBX := Lib.hid (heap_below HBX3.out HW.out)
            have HBW := Lib.hid (below_then' HB30.out HW.out)
            obtain ⟨A4, n4, c4, hf⟩ := HDN.out.form
            subst hf
            by_cases hid : i < D.size
            · obtain ⟨C, hC⟩ : ∃ C, D[i] = C := ⟨_, rfl⟩
              have HC := Lib.hid hC
              obtain ⟨V, rfl⟩ : ∃ V : World, V = wr := ⟨_, rfl⟩
              obtain ⟨G, rfl⟩ : ∃ G : Nat, G = gk := ⟨_, rfl⟩
              have hi1 : (i : Int) < (D.size : Int) := by omega
              clear hi
              go_wp2_with fail
              go_loopg [9] b (fun g kv wr => ∃ (k m : Nat), kv = .int .i64 (k : Int) ∧ k + g = b ∧ Hid (∀ j, j < k → chr j ≠ C) ∧ wr = V.drewN m)
              case atStart => exact ⟨0, 0, rfl, by omega, fun j hj => by omega, rfl⟩
              case round =>
                obtain ⟨k, m0, rfl, hk, HNE, rfl⟩ := hrel
                have HK := Lib.hid hk
                have hb36 := HBB.out.2
                by_cases hkb : k < b
                · have h1 : decide ((k : Int) < (b : Int)) = true := decide_eq_true (by omega)
                  have hk36 : k < 36 := by omega
                  have hsg := sign_get k hk36
                  have j0 : (0 : Int) ≤ (k : Int) := by omega
                  have j1 : (k : Int) < 36 := by omega
                  have j2 : (0 : Int) ≤ (i : Int) := by omega
                  clear hk hb36
                  by_cases hcc : chr k = C
                  · have hcm : (((chr k).toNat : Int) != (C.toNat : Int)) = false := by rw [hcc]; simp
                    have hkne : ((k : Int) == (b : Int)) = false := by rw [beq_eq_false_iff_ne]; omega
                    have HIX : Hid (idxOf C = some k) := by show _ = _; rw [← hcc]; exact idxOf_chr hk36
                    have HLN : Hid ((dg 10 (bval b (D.data.toList.take i))).length ≤ 1000000) := by
                      have h1 := bval_len HBB.out.2 HDS.out
                      have h2 := HLEN.out
                      rw [List.length_take] at h1
                      show _ ≤ _
                      omega
                    have HLM : Hid ((dg 10 (bval b (D.data.toList.take i) * b)).length ≤ 1000000) := by
                      have h1 := bval_len HBB.out.2 HDS.out
                      have h2 := HLEN.out
                      rw [List.length_take] at h1
                      have h3 := (dg_length_le (b := 10) (by decide) _ _).1 h1
                      have h4 : bval b (D.data.toList.take i) * b < 10 ^ (2 * min i D.data.toList.length + 2) := by
                        rw [Nat.pow_add]
                        exact Nat.mul_lt_mul'' h3 (by have := HBB.out; omega)
                      exact Nat.le_trans ((dg_length_le (b := 10) (by decide) _ _).2 h4) (by omega)
                    have HLK : Hid ((dg 10 k).length ≤ 1000000) := Nat.le_trans ((dg_length_le (b := 10) (by decide) k 2).2 (by omega)) (by decide)
                    have HVB := Lib.hid (below_drewN (Below.refl V.heap.size V))
                    clear hcc
                    go_wp2_with fail
                    go_quiet (fail)
                    go_wp2_with (first
                      | (go_at_call 63; (with_reducible refine (natMul_c _ _ (bval b (D.data.toList.take i)) b _ (HDN.out.below (below_drewN (Below.refl _ _) _)) ((HDB.out.below HW.out).below (below_drewN (Below.refl _ _) _)) HLN.out HLB.out).mono ?_); rintro e W5 ⟨u, rfl, hu, -, hbz⟩; obtain ⟨A5, n5, c5, rfl⟩ := hu.form; have HU5 := Lib.hid hu; have HB5 := Lib.hid hbz; clear hu hbz)
                      | (go_at_call 53; (with_reducible refine (rfromint_c (k : Int) _ (by omega) (by omega)).mono ?_); rintro e W6 ⟨rfl, hbz⟩; have HB6 := Lib.hid hbz; clear hbz)
                      | (go_at_call 23; (with_reducible refine (rof_c _ (k : Int) _ (HNB.out k (by omega))).mono ?_); rintro e W7 ⟨u, rfl, hu, hbz⟩; obtain ⟨A7, n7, c7, b7, rfl⟩ := hu.form; have HU7 := Lib.hid hu; have HB7 := Lib.hid hbz; have HD7 : Hid (Dg 10 W7 (.slice A7 n7 c7) k) := (by obtain ⟨p, e, hp⟩ := hu; simp at e; show Dg 10 W7 _ _; rw [e.1]; exact hp); clear hu hbz)
                      | (go_at_call 90; (with_reducible refine (natAdd_c _ _ (bval b (D.data.toList.take i) * b) k _ ((HU5.out.below HB6.out).below HB7.out) HD7.out HLM.out HLK.out).mono ?_); rintro e W8 ⟨u, rfl, hu, hfu, hbz⟩; obtain ⟨A8, n8, c8, rfl⟩ := hu.form; have HU8 := Lib.hid hu; have HB8 := Lib.hid hbz; have HF8 := Lib.hid hfu; clear hu hbz hfu))
                    have HBV := Lib.hid (below_then' (HVB.out _) (below_then' HB5.out (below_then' HB6.out (below_then' HB7.out HB8.out))))
                    have HT : Hid (D.data.toList.take (i + 1) = D.data.toList.take i ++ [C]) := by
                      show _ = _
                      rw [List.take_add_one, List.getElem?_eq_getElem (by rw [HLEN.out]; exact hid), ← HC.out]; rfl
                    go_roundg (G - 1)
                    case measure => have := HI.out; omega
                    case rel =>
                      refine ⟨i + 1, by go_num, by have := HI.out; omega, ?_, ?_, HF8.out.mono ?_, below_then' HW.out HBV.out⟩
                      · show Dg _ _ _ _
                        rw [HT.out, bval_snoc, HIX.out]
                        exact HU8.out
                      · show bdigs _ _
                        rw [HT.out]
                        intro c hc
                        rcases List.mem_append.1 hc with hc | hc
                        · exact HDS.out c hc
                        · rw [List.mem_singleton.1 hc]; exact ⟨k, HIX.out, hkb⟩
                      · exact Nat.le_trans HW.out.size (Nat.le_trans (HVB.out _).size (Nat.le_trans HB5.out.size (Nat.le_trans HB6.out.size HB7.out.size)))
                  · have hcm : (((chr k).toNat : Int) != (C.toNat : Int)) = true := by
                      rw [bne_iff_ne]
                      intro e
                      exact hcc (UInt8.toNat_inj.1 (by omega))
                    have HCC := Lib.hid hcc
                    clear hcc
                    go_wp2_with fail
                    go_quiet (fail)
                    go_wp2_with fail
                    go_roundg (gk - 1)
                    case measure => have := HK.out; omega
                    case rel =>
                      refine ⟨k + 1, m0 + nq, by go_num, by have := HK.out; omega, fun j hj => ?_, rfl⟩
                      by_cases e : j = k
                      · subst e; exact HCC.out
                      · exact HNE.out j (by omega)
                · obtain rfl : k = b := by omega
                  have h1 : decide ((k : Int) < (k : Int)) = false := decide_eq_false (by omega)
                  have h2 : ((k : Int) == (k : Int)) = true := by simp
                  have HNO : Hid (¬ okD k ng D.data.toList) := fun h => by
                    obtain ⟨d, e1, e2⟩ := h.2 C (by rw [← HC.out]; exact Array.getElem_mem_toList (xs := D.data) (i := i) hid)
                    exact HNE.out d e2 (chr_idxOf e1).2
                  have HVB := Lib.hid (below_drewN (Below.refl V.heap.size V))
                  clear hk
                  go_wp2_with fail
                  go_quiet (fail)
                  have hbx := HBX.out
                  have b0 := cell_of_heap hbx 0; have b1 := cell_of_heap hbx 1; have b2 := cell_of_heap hbx 2
                  have f0 := free_of_heap hbx 0; have f1 := free_of_heap hbx 1; have f2 := free_of_heap hbx 2
                  simp at b0 b1 b2
                  clear hbx
                  go_wp2_with fail
                  refine bodyPost_ret (v := .agg #[.slice none 0 0, .bool false, .int .i64 7]) (by simp [results, Tryz.results39, go_sem, b0, b1, b2]) rfl ?_
                  exact ⟨.inr ⟨HNO.out, rfl⟩, (((below_then' HBW.out (HVB.out (m0 + nq))).setCell (p := ⟨w.heap.size, 0, none⟩) (Nat.le_refl _) _).setCell (p := ⟨w.heap.size, 1, none⟩) (Nat.le_refl _) _).setCell (p := ⟨w.heap.size, 2, none⟩) (Nat.le_refl _) _⟩
            · obtain rfl : i = D.size := by omega
              have HTK : Hid (D.data.toList.take D.size = D.data.toList) := List.take_of_length_le (by rw [HLEN.out]; exact Nat.le_refl _)
              have b0 := cell_of_heap HBX.out 0; have b1 := cell_of_heap HBX.out 1; have b2 := cell_of_heap HBX.out 2
              have f0 := free_of_heap HBX.out 0; have f1 := free_of_heap HBX.out 1; have f2 := free_of_heap HBX.out 2
              simp at b0 b1 b2
              have hlb : w.heap.size < W3.heap.size := Nat.lt_of_lt_of_le hsz HB3.out.size
              have HLB3 := Lib.hid hlb
              clear hi
              go_wp2_with fail
              refine bodyPost_ret (v := .agg #[.slice A4 n4 c4, .bool ng, .int .i64 0]) (by simp [results, Tryz.results39, go_sem, b0, b1, b2]) rfl ?_
              refine ⟨.inl ⟨⟨HYES.out, by have := HDS.out; rw [HTK.out] at this; exact this⟩, A4, n4, c4, rfl, ?_⟩, ((HBW.out.setCell (p := ⟨w.heap.size, 0, none⟩) (Nat.le_refl _) _).setCell (p := ⟨w.heap.size, 1, none⟩) (Nat.le_refl _) _).setCell (p := ⟨w.heap.size, 2, none⟩) (Nat.le_refl _) _⟩
              have h1 := HDN.out
              rw [HTK.out] at h1
              exact ((h1.set HFN.out HLB3.out (a := ⟨w.heap.size, 0, none⟩) _).set HFN.out HLB3.out (a := ⟨w.heap.size, 1, none⟩) _).set HFN.out HLB3.out (a := ⟨w.heap.size, 2, none⟩) _

theorem headD_form {b : Nat} {ng : Bool} {l d : List UInt8} (hd : d = Lib.trimPrefix l [45]) (hl : l ≠ []) (hng : ng = true ↔ l.head? = some 45) : okD b ng d ↔ formB b l := by
  subst hd
  have key : (Lib.trimPrefix l [45]).head? = some 48 → ((1 < (Lib.trimPrefix l [45]).length ∨ ng = true) ↔ l ≠ [48]) := by
    intro h48
    cases ng with
    | true =>
      have h := hng.1 rfl
      refine ⟨fun _ e => ?_, fun _ => .inr rfl⟩
      rw [e] at h; cases h
    | false =>
      have h : l.head? ≠ some 45 := fun e => by have := hng.2 e; cases this
      rw [trim_other h] at h48 ⊢
      refine ⟨fun h e => ?_, fun h => .inl ?_⟩
      · rw [e] at h; simp at h
      · cases l with
        | nil => cases h48
        | cons c t =>
          obtain rfl : c = 48 := by simpa using h48
          cases t with
          | nil => exact absurd rfl h
          | cons => simp
  unfold okD headD formB
  constructor
  · rintro ⟨⟨h1, h2⟩, h3⟩
    exact ⟨h1, fun ⟨e1, e2⟩ => h2 ⟨e1, (key e1).2 e2⟩, h3⟩
  · rintro ⟨h1, h2, h3⟩
    exact ⟨⟨h1, fun ⟨e1, e2⟩ => h2 ⟨e1, (key e1).1 e2⟩⟩, h3⟩

set_option maxRecDepth 100000 in
set_option maxHeartbeats 1000000 in
theorem rfrombase_c (S : ByteArray) (b : Nat) (w : World) (hS : S.size ≤ 1000) (hb : 2 ≤ b) (hb2 : b ≤ 36) :
    Calls Tryz.prog 39 #[.string S, .int .i64 (b : Int)] w (RFromP b S.data.toList w) := by
  by_cases h0 : S.size = 0
  · have hnil : S.data.toList = [] := List.eq_nil_of_length_eq_zero (by rw [Array.length_toList]; exact h0)
    have HNO : Hid (¬ formB b S.data.toList) := by
      rw [hnil]
      intro h
      exact h.1 (by rw [trim_other (by simp)])
    have hs0 : decide (0 < (S.size : Int)) = false := decide_eq_false (by omega)
    have hs1 : ¬ 0 < (S.size : Int) := by omega
    have hs2 : decide ((S.size : Int) < 1) = true := decide_eq_true (by omega)
    have hs3 : (S.size : Int) < 1 := by omega
    clear hnil
    go_enter Tryz.func39, Tryz.ntmps39
    go_wp2_with fail
    refine bodyPost_ret (v := .agg #[.slice none 0 0, .bool false, .int .i64 7]) (by simp [results, Tryz.results39, go_sem]) rfl ?_
    exact ⟨.inr ⟨HNO.out, rfl⟩, (by repeat (first | exact Below.refl _ _ | exact HB.out | (refine Below.alloc ?_ (by first | (simp; done) | (simp; omega)) _) | (refine Below.setCell ?_ (by first | (simp; done) | (simp; omega)) _) | refine Below.drew ?_ | refine below_drewN ?_ _))⟩
  · have hp : 0 < S.size := by omega
    have hh := list_head hp
    have hne : S.data.toList ≠ [] := fun e => by rw [e] at hh; cases hh
    obtain ⟨ng, hng⟩ : ∃ ng, ((S[0].toNat : Int) == 45) = ng := ⟨_, rfl⟩
    have hng2 : ng = true ↔ S.data.toList.head? = some 45 := by
      rw [hh, ← hng]
      constructor
      · intro h
        have h2 : (S[0].toNat : Int) = 45 := by simpa using h
        congr 1
        refine UInt8.toNat_inj.1 ?_
        have : (45 : UInt8).toNat = 45 := rfl
        omega
      · intro h
        rw [Option.some.inj h]; rfl
    obtain ⟨D, hD⟩ : ∃ D : ByteArray, (if ng then S.extract 1 S.size else S) = D := ⟨_, rfl⟩
    have hDl : D.data.toList = Lib.trimPrefix S.data.toList [45] := by
      rw [← hD]
      cases ng with
      | true =>
        have h := hng2.1 rfl
        rw [if_pos rfl, ext_list, List.take_of_length_le (by rw [Array.length_toList]; exact Nat.le_refl _)]
        cases hl : S.data.toList with
        | nil => exact absurd hl hne
        | cons c t =>
          rw [hl] at h
          obtain rfl : c = 45 := by simpa using h
          rw [trim_minus]; rfl
      | false =>
        rw [if_neg (by simp), trim_other (fun e => by have := hng2.2 e; cases this)]
    refine (rfrombase_ne S D ng b w hS hb hb2 hp hng hD.symm).mono ?_
    rintro e w' ⟨h, hb'⟩
    refine ⟨?_, hb'⟩
    have hok := headD_form (b := b) hDl hne hng2
    rcases h with ⟨h1, A, n, c, rfl, h2⟩ | ⟨h1, rfl⟩
    · have hf := hok.1 h1
      refine .inl ⟨hf, A, n, c, ng, rfl, .slice A n c, ?_, ?_⟩
      · have hpos : 0 < bval b D.data.toList ∨ ng = false := by
          cases ng with
          | false => exact .inr rfl
          | true =>
            refine .inl ?_
            obtain ⟨⟨g1, g2⟩, g3⟩ := h1
            obtain ⟨m, hm⟩ : ∃ m, D.data.toList.length = m + 1 := ⟨D.data.toList.length - 1, by have := List.length_pos_iff.2 g1; omega⟩
            exact (bdig_bval hb hb2 m _ hm g3 (fun e => g2 ⟨e, .inr rfl⟩)).1
        have : ng = decide (fromB b S.data.toList < 0) := by
          unfold fromB
          rw [← hDl]
          cases ng with
          | true =>
            rw [if_pos (hng2.1 rfl)]
            symm; simp; have := hpos.resolve_right (by simp); omega
          | false =>
            rw [if_neg (fun e => by have := hng2.2 e; cases this)]
            symm; simp
        rw [← this]
      · have : (fromB b S.data.toList).natAbs = bval b D.data.toList := by
          unfold fromB
          rw [← hDl]
          split <;> omega
        rw [this]; exact h2
    · exact .inr ⟨fun h => h1 (hok.2 h), rfl⟩
end Go.Proofs.YtbjgpbdkofadiaaGreatDoor
