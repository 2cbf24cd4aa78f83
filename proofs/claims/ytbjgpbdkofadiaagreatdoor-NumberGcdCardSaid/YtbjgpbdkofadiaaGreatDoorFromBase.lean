/- FromBase. -/
import Derived.Test.YtbjgpbdkofadiaaGreatDoorToBase
namespace Go.Proofs.YtbjgpbdkofadiaaGreatDoor
set_option linter.unusedVariables false
set_option linter.unusedSimpArgs false
open Go.RowKit Go.Shelf Go.Proofs

/-- A number's index in a table. -/
theorem index_g (n c : Nat) (xv : Int) (tv : Nat → Int) (w : World) (hn : n ≤ 36) (hc : ∀ d, d < 36 → w.cell? ⟨0, d, none⟩ = some (.int .u8 (tv d))) :
    Calls Tryz.prog 86 #[.slice (some ⟨0, 0, none⟩) n c, .int .u8 xv] w fun e w' => (∃ r : Int, e = .returned (.int .i64 r) ∧ ((∃ d, tv d = xv ∧ d < n ∧ r = d) ∨ ((¬ ∃ d, tv d = xv ∧ d < n) ∧ r = -1))) ∧ w = w' := by
  have HC := Lib.hid hc
  clear hc
  go_enter Tryz.func86, Tryz.ntmps86
  go_wp2_with fail
  go_loopg [8] n (fun gk iv wr => ∃ i : Nat, iv = .int .i64 i ∧ i + gk = n ∧ Hid (∀ d, d < i → tv d ≠ xv) ∧ wr = w)
  case atStart => exact ⟨0, rfl, by omega, fun d hd => by omega, rfl⟩
  case round =>
    obtain ⟨i, rfl, hg, HN, rfl⟩ := hrel
    have HGK := Lib.hid hg
    by_cases hlt : i < n
    · have hcell := HC.out i (by omega)
      have HLT := Lib.hid hlt
      obtain ⟨cv, hcv⟩ : ∃ cv : Int, tv i = cv := ⟨_, rfl⟩
      have HCV := Lib.hid hcv
      rw [hcv] at hcell
      have hi9 : i < 9223372036854775807 := by omega
      by_cases hq : xv = cv
      · have HQ := Lib.hid hq
        have hb : (xv == cv) = true := by simp [hq]
        clear hg hlt hcv
        go_wp2
        go_ret
        exact ⟨⟨_, rfl, .inl ⟨i, by rw [HCV.out, HQ.out], HLT.out, rfl⟩⟩, rfl⟩
      · have HQ := Lib.hid hq
        have hb : (xv == cv) = false := by simp [hq]
        clear hg hlt hcv
        go_wp2
        go_roundg (gk - 1)
        case measure => have h1 := HGK.out; have h2 := HLT.out; omega
        case rel =>
          refine ⟨i + 1, by simp, by have h1 := HGK.out; have h2 := HLT.out; omega, fun d hd e => ?_, rfl⟩
          rcases Nat.lt_or_ge d i with h | h
          · exact HN.out d h e
          · obtain rfl : d = i := by omega
            exact HQ.out (e.symm.trans HCV.out)
    · have hi : i = n := by omega
      subst hi
      clear hg hlt
      go_wp2
      go_ret
      exact ⟨⟨_, rfl, .inr ⟨fun ⟨d, h1, h2⟩ => HN.out d h2 h1, rfl⟩⟩, rfl⟩
/-- A digit's index among the first n digits. -/
theorem index_c (n c : Nat) (x : UInt8) (w : World) (hn : n ≤ 36) (hc : ∀ d, d < 36 → w.cell? ⟨0, d, none⟩ = some (.int .u8 ((chr d).toNat : Int))) :
    Calls Tryz.prog 86 #[.slice (some ⟨0, 0, none⟩) n c, .int .u8 (x.toNat : Int)] w fun e w' => (∃ r : Int, e = .returned (.int .i64 r) ∧ ((∃ d, idxOf x = some d ∧ d < n ∧ r = d) ∨ ((¬ ∃ d, idxOf x = some d ∧ d < n) ∧ r = -1))) ∧ w = w' := by
  have key : ∀ d, d < n → (((chr d).toNat : Int) = (x.toNat : Int) ↔ idxOf x = some d) := fun d hd => by
    constructor
    · intro e
      have : chr d = x := UInt8.toNat_inj.1 (by omega)
      rw [← this]; exact idxOf_chr (by omega)
    · intro e
      rw [(chr_idxOf e).2]
  refine (index_g n c _ (fun d => ((chr d).toNat : Int)) w hn hc).mono ?_
  rintro e w' ⟨⟨r, he, hr⟩, hw⟩
  refine ⟨⟨r, he, ?_⟩, hw⟩
  rcases hr with ⟨d, h1, h2, h3⟩ | ⟨h1, h2⟩
  · exact .inl ⟨d, (key d h2).1 h1, h2, h3⟩
  · exact .inr ⟨fun ⟨d, h3, h4⟩ => h1 ⟨d, (key d h4).2 h3, h4⟩, h2⟩

set_option maxHeartbeats 1000000 in
theorem fb_range (S : ByteArray) (b : Int) (w : World) (hb : b < 2 ∨ 36 < b) :
    Calls Tryz.prog 37 #[.string S, .int .i64 b] w fun e w' => e = .returned (.tuple #[.string ⟨#[]⟩, .int .i64 1]) ∧ Below w.heap.size w w' := by
  by_cases h : b < 2
  · have h1 : decide (b < 2) = true := by simp [h]
    clear hb
    go_enter_defers Tryz.func37, Tryz.ntmps37
    go_wp2
    have r0 := new_cell w #[.int .i64 1] 24 0
    simp at r0
    simp [bodyPostD, Leaves, results, Tryz.results37, go_sem, r0]
    exact (by repeat (first | exact Below.refl _ _ | exact HB.out | (refine Below.alloc ?_ (by first | (simp; done) | (simp; omega)) _) | (refine Below.setCell ?_ (by first | (simp; done) | (simp; omega)) _) | refine Below.drew ?_ | refine below_drewN ?_ _))
  · have h1 : decide (b < 2) = false := by simp; omega
    have h3 : 36 < b := by omega
    have h2 : decide (36 < b) = true := by simp [h3]
    clear hb
    go_enter_defers Tryz.func37, Tryz.ntmps37
    go_wp2
    have r0 := new_cell w #[.int .i64 1] 24 0
    simp at r0
    simp [bodyPostD, Leaves, results, Tryz.results37, go_sem, r0]
    exact (by repeat (first | exact Below.refl _ _ | exact HB.out | (refine Below.alloc ?_ (by first | (simp; done) | (simp; omega)) _) | (refine Below.setCell ?_ (by first | (simp; done) | (simp; omega)) _) | refine Below.drew ?_ | refine below_drewN ?_ _))

/-- What FromBase answers to a text of another form. -/
def FormErr (w : World) (e : Ending) (w' : World) : Prop := e = .returned (.tuple #[.string ⟨#[]⟩, .int .i64 7]) ∧ Below w.heap.size w w'

set_option maxHeartbeats 1000000 in
theorem fb_empty (S : ByteArray) (b : Nat) (hb : 2 ≤ b) (hb2 : b ≤ 36) (w : World) (h : Lib.trimPrefix S.data.toList [45] = []) :
    Calls Tryz.prog 37 #[.string S, .int .i64 (b : Int)] w (FormErr w) := by
  have h1 : decide ((b : Int) < 2) = false := by simp; omega
  have h2 : decide (36 < (b : Int)) = false := by simp; omega
  have h3 : ¬ (b : Int) < 2 := by omega
  have h4 : ¬ 36 < (b : Int) := by omega
  have HH := Lib.hid h
  clear h hb hb2
  go_enter_defers Tryz.func37, Tryz.ntmps37
  go_wp2_with (go_at_call 85; refine (Tryz.strings_CutPrefix S _ _).mono ?_; rintro e W3 ⟨rfl, rfl⟩; rw [show (ByteArray.mk #[45]).data.toList = [45] from rfl, HH.out])
  have r0 := new_cell w #[.int .i64 7] 24 0
  simp at r0
  simp [bodyPostD, Leaves, results, Tryz.results37, go_sem, r0]
  exact ⟨rfl, (by repeat (first | exact Below.refl _ _ | exact HB.out | (refine Below.alloc ?_ (by first | (simp; done) | (simp; omega)) _) | (refine Below.setCell ?_ (by first | (simp; done) | (simp; omega)) _) | refine Below.drew ?_ | refine below_drewN ?_ _))⟩

/-- The bytes of a string, in memory of their own. -/
theorem bytes_new (W : World) (D : ByteArray) : ∃ W1 c, (convert 9 101 (.string D)).run Tryz.prog W = .ok (.slice (some ⟨W.heap.size, 0, none⟩) D.size c) W1 ∧ Below W.heap.size W W1 ∧ W.heap.size < W1.heap.size ∧ ∀ j (hj : j < D.size), W1.cell? ⟨W.heap.size, j, none⟩ = some (.int .u8 ((D[j]'hj).toNat : Int)) := by
  refine ⟨_, _, run_bytes_of_string W _ _ 5 D Tryz.underlying9 Tryz.underlying101 Tryz.underlying5, (Below.refl _ _).drew.alloc (Nat.le_refl _) _, by simp, fun j hj => ?_⟩
  exact (cell_of_heap (heap_alloc_new W.drew _) j).trans (bytesRow_at D _ j hj)

set_option maxRecDepth 100000 in
set_option maxHeartbeats 1000000 in
theorem fb_zero (S : ByteArray) (b : Nat) (hb : 2 ≤ b) (hb2 : b ≤ 36) (w : World) (D : ByteArray) (hD : (⟨(Lib.trimPrefix S.data.toList [45]).toArray⟩ : ByteArray) = D) (hpos : 0 < D.size) (hc : ((D[0]'hpos).toNat : Int) = 48) (hs : ¬ S.toList = [48]) :
    Calls Tryz.prog 37 #[.string S, .int .i64 (b : Int)] w (FormErr w) := by
  have h1 : decide ((b : Int) < 2) = false := by simp; omega
  have h2 : decide (36 < (b : Int)) = false := by simp; omega
  have h3 : ¬ (b : Int) < 2 := by omega
  have h4 : ¬ 36 < (b : Int) := by omega
  have HD := Lib.hid hD
  have hae : D.toList.isEmpty = false := by
    simp only [ByteArray.toList_eq]
    cases h : D.data.toList with
    | nil => have := congrArg List.length h; rw [Array.length_toList] at this; exact absurd this (by show D.size ≠ 0; omega)
    | cons a l => rfl
  have ha : ¬ D.toList = [] := by intro e; rw [e] at hae; cases hae
  have hsb : (S.toList == [48]) = false := by simp [hs]
  clear hD hb hb2
  go_enter_defers Tryz.func37, Tryz.ntmps37
  go_wp2_with (go_at_call 85; refine (Tryz.strings_CutPrefix S _ _).mono ?_; rintro e W3 ⟨rfl, rfl⟩; rw [show (ByteArray.mk #[45]).data.toList = [45] from rfl, HD.out])
  have r0 := new_cell w #[.int .i64 7] 24 0
  simp at r0
  simp [bodyPostD, Leaves, results, Tryz.results37, go_sem, r0]
  exact ⟨rfl, (by repeat (first | exact Below.refl _ _ | exact HB.out | (refine Below.alloc ?_ (by first | (simp; done) | (simp; omega)) _) | (refine Below.setCell ?_ (by first | (simp; done) | (simp; omega)) _) | refine Below.drew ?_ | refine below_drewN ?_ _))⟩

theorem prefix_head (l : List UInt8) : Lib.hasPrefix l [45] = decide (l.head? = some 45) := by
  cases l with
  | nil => rfl
  | cons c r =>
    simp only [Lib.hasPrefix, List.isPrefixOf, List.head?_cons, Option.some.injEq, Bool.and_true]
    rw [Bool.eq_iff_iff, beq_iff_eq, decide_eq_true_iff]
    exact eq_comm

theorem cut1_c (a : Addr) (d : Nat) (w : World) (hd : d < 1000000000) (hr : Row .i64 w (some a) [(d : Int)]) : Calls Tryz.prog 89 #[.slice (some a) 1 1] w fun e w' => w = w' ∧ ∃ v, e = .returned v ∧ Dg 1000000000 w' v d := by
  refine (cut_c (some a) 1 [(d : Int)] w hr (by simp) (by omega)).mono ?_
  intro e w' hcut
  obtain ⟨rfl, v, rfl, hdg, _⟩ := cut_dg (b := 1000000000) (n := d) (by decide) hr (by simp) (by omega) (InR.cons (by omega) (by omega) (InR.nil _)) (by simp [val]) hcut
  exact ⟨rfl, v, rfl, hdg⟩

/-- What FromBase makes. -/
def FromP (b : Nat) (S : ByteArray) (w : World) (e : Ending) (w' : World) : Prop := e = .returned ((textOut (fromB b S.data.toList)).res (.string ⟨#[]⟩)) ∧ Below w.heap.size w w'

set_option maxRecDepth 100000 in
set_option maxHeartbeats 4000000 in
theorem fb_digits (S : ByteArray) (b : Nat) (hb : 2 ≤ b) (hb2 : b ≤ 36) (w : World) (ht : Tabs w) (D : ByteArray) (hD : (⟨(Lib.trimPrefix S.data.toList [45]).toArray⟩ : ByteArray) = D) (hpos : 0 < D.size) (hdl : D.size ≤ 1000) (hc : (((D[0]'hpos).toNat : Int) == 48) = true ∧ (S.toList == [48]) = true ∨ (((D[0]'hpos).toNat : Int) == 48) = false) :
    Calls Tryz.prog 37 #[.string S, .int .i64 (b : Int)] w fun e w' => (bdigs b D.data.toList ∧ FromP b S w e w') ∨ (¬ bdigs b D.data.toList ∧ FormErr w e w') := by
  have h1 : decide ((b : Int) < 2) = false := by simp; omega
  have h2 : decide (36 < (b : Int)) = false := by simp; omega
  have h3 : ¬ (b : Int) < 2 := by omega
  have h4 : ¬ 36 < (b : Int) := by omega
  have HD := Lib.hid hD
  have HT := Lib.hid ht
  have HBB := Lib.hid (And.intro hb hb2)
  have hae : D.toList.isEmpty = false := by
    simp only [ByteArray.toList_eq]
    cases h : D.data.toList with
    | nil => have := congrArg List.length h; rw [Array.length_toList] at this; exact absurd this (by show D.size ≠ 0; omega)
    | cons a l => rfl
  have ha : ¬ D.toList = [] := by intro e; rw [e] at hae; cases hae
  obtain ⟨W, hW, kk, ff, hbel, hsz⟩ := boxes1 w #[.int .i64 0] 24
  have r0 := kk 0
  have g0 := ff 0
  simp at r0
  obtain ⟨W1, cc, hcv, hb1, hs1, hcell⟩ := bytes_new W D
  have HBW : Hid (Below w.heap.size w W1) := below_then' hbel.to hb1
  have HB1 := Lib.hid hb1
  have HCL := Lib.hid hcell
  have q0 := keep_cell hb1 r0
  have z0 := keep_free' hb1 r0 g0
  have HSW : Hid (W.heap.size = w.heap.size + 1) := hsz
  have hd9 : D.size ≤ 9223372036854775806 := by omega
  obtain ⟨neg, hneg⟩ : ∃ neg, Lib.hasPrefix S.data.toList [45] = neg := ⟨_, rfl⟩
  have HNEG := Lib.hid hneg
  have hdig : ∀ d, d < 36 → W1.cell? ⟨0, d, none⟩ = some (.int .u8 ((chr d).toNat : Int)) := fun d hd => digit_cell (HT.out.below HBW.out) d hd
  have HDIG := Lib.hid hdig
  have HDL := Lib.hid hdl
  clear hD hb hb2 ht kk ff hbel hb1 hs1 hcell hsz hdig hneg hdl
  have key : Hid (∀ (R : Ending → World → Prop), True) := fun _ => trivial
  rcases hc with ⟨hc, hsb⟩ | hc
  · go_enter_defers Tryz.func37, Tryz.ntmps37
    go_wp2_with (go_at_call 85; refine (Tryz.strings_CutPrefix S _ _).mono ?_; rintro e W3 ⟨rfl, rfl⟩; rw [show (ByteArray.mk #[45]).data.toList = [45] from rfl, HD.out, HNEG.out])
    clear hc hsb
    go_loopg [4, 38] D.size (fun gk sv iv wr => ∃ i : Nat, sv = .string ⟨#[]⟩ ∧ iv = .int .i64 i ∧ i + gk = D.size ∧ Hid (∀ j (hj : j < D.size), j < i → ∃ d, idxOf (D[j]'hj) = some d ∧ d < b) ∧ wr = W1)
    case atStart => exact ⟨0, rfl, rfl, by omega, fun j hj h => by omega, rfl⟩
    case round =>
      obtain ⟨i, rfl, rfl, hg, HN, hwr⟩ := hrel
      have hwr' := hwr.symm
      clear hwr
      subst hwr'
      have HGK := Lib.hid hg
      by_cases hlt : i < D.size
      · have hce := HCL.out i hlt
        obtain ⟨x, hx⟩ : ∃ x, D[i]'hlt = x := ⟨_, rfl⟩
        rw [hx] at hce
        have HXX := Lib.hid hx
        have HLT := Lib.hid hlt
        by_cases hq : ∃ d, idxOf x = some d ∧ d < b
        · have HQ := Lib.hid hq
          clear hg hx hq
          go_wp2_with (go_at_call 86; refine (index_c b 36 x _ HBB.out.2 HDIG.out).mono ?_; rintro e V4 ⟨⟨r, rfl, hr⟩, rfl⟩; have hr1 : ¬ r < 0 := (by rcases hr with ⟨d, _, _, rfl⟩ | ⟨hn, _⟩ <;> first | (omega) | exact absurd HQ.out hn); have hr0 : decide (r < 0) = false := decide_eq_false hr1; clear hr)
          go_roundg (gk - 1)
          case measure => have h1 := HGK.out; have h2 := HLT.out; omega
          case rel =>
            refine ⟨i + 1, rfl, by simp, by have h1 := HGK.out; have h2 := HLT.out; omega, fun j hj h => ?_, rfl⟩
            rcases Nat.lt_or_ge j i with h' | h'
            · exact HN.out j hj h'
            · obtain rfl : j = i := by omega
              rw [HXX.out]; exact HQ.out
        · have hnd : ¬ bdigs b D.data.toList := fun hh => hq (by have := hh (D[i]'hlt) (by exact Array.mem_toList_iff.2 (Array.getElem_mem hlt)); rw [hx] at this; exact this)
          have HND := Lib.hid hnd
          have HQ := Lib.hid hq
          clear hg hx hq hnd
          go_wp2_with (go_at_call 86; refine (index_c b 36 x _ HBB.out.2 HDIG.out).mono ?_; rintro e V4 ⟨⟨r, rfl, hr⟩, rfl⟩; obtain rfl : r = -1 := (by rcases hr with ⟨d, h1, h2, _⟩ | ⟨_, hh⟩ <;> first | exact hh | exact absurd ⟨d, h1, h2⟩ HQ.out); clear hr)
          have e0 := set_same (.int .i64 7) q0
          simp [bodyPostD, Leaves, results, Tryz.results37, go_sem, e0]
          exact .inr ⟨HND.out, rfl, HBW.out.setCell (p := ⟨w.heap.size, 0, none⟩) (Nat.le_refl _) _⟩
      · have hall : bdigs b D.data.toList := fun x hx => by
          obtain ⟨j, hj, e⟩ := List.getElem_of_mem hx
          have hj' : j < D.size := by rw [Array.length_toList] at hj; exact hj
          have := HN.out j hj' (by omega)
          rw [← e]; exact this
        have HALL := Lib.hid hall
        obtain ⟨W2, c2, hcv2, hb2', hs2, hcell2⟩ := bytes_new W1 D
        have HCL2 := Lib.hid hcell2
        have HS2 := Lib.hid hs2
        have q2 := keep_cell hb2' q0
        have z2 := keep_free' hb2' q0 z0
        have HB2 := Lib.hid hb2'
        have HBW2 : Hid (Below w.heap.size w W2) := below_then' HBW.out hb2'
        clear hg hall hb2' hs2 hcell2 hcv
        go_wp2_with fail
        go_loopg [10, 51] D.size (fun gk pv iv wr => ∃ (i m : Nat), iv = .int .i64 i ∧ i + gk = D.size ∧ Hid (Dg 1000000000 wr pv m ∧ m = bval b (D.data.toList.take i) ∧ m < 10 ^ 200) ∧ wr.cell? ⟨w.heap.size, 0, none⟩ = some (.int .i64 0) ∧ wr.frozen? ⟨w.heap.size, 0, none⟩ = false ∧ Hid (Below W2.heap.size W2 wr))
        case atStart => exact ⟨0, 0, rfl, by omega, ⟨Dg.zero (by decide) .., by simp [bval], by decide⟩, q2, z2, Below.refl _ _⟩
        case round =>
          obtain ⟨i, m, rfl, hg, HG, p0, f0, HB⟩ := hrel
          have HGK := Lib.hid hg
          obtain ⟨A8, n8, c8, rfl⟩ := HG.out.1.form
          by_cases hlt : i < D.size
          · have hce := keep_cell HB.out (HCL2.out i hlt)
            obtain ⟨x, hx⟩ : ∃ x, D[i]'hlt = x := ⟨_, rfl⟩
            rw [hx] at hce
            have hce2 : wr.drew.cell? ⟨W1.heap.size, i, none⟩ = some (.int .u8 (x.toNat : Int)) := hce
            obtain ⟨d, hd1, hd2⟩ := HALL.out x (by rw [← hx]; exact Array.mem_toList_iff.2 (Array.getElem_mem hlt))
            have HD36 : Hid (d < 36) := Nat.lt_of_lt_of_le hd2 HBB.out.2
            have HXD := Lib.hid hd1
            obtain ⟨m2, hm2⟩ : ∃ m2, m * b + d = m2 := ⟨_, rfl⟩
            have HM2 := Lib.hid hm2
            have HLT := Lib.hid hlt
            have hval : bval b (D.data.toList.take (i + 1)) = m2 := by
              rw [List.take_succ_eq_append_getElem (by rw [Array.length_toList]; exact hlt), bval_snoc, ← HG.out.2.1, ← hm2]
              congr 1
              have : D.data.toList[i]'(by rw [Array.length_toList]; exact hlt) = x := by rw [← hx]; rfl
              rw [this, hd1]; rfl
            have HVAL := Lib.hid hval
            have HTW : Hid (∀ W', Below wr.heap.size wr W' → ∀ d, d < 36 → W'.cell? ⟨0, d, none⟩ = some (.int .u8 ((chr d).toNat : Int))) := fun W' hW' d hd => digit_cell (HT.out.below (below_then' (below_then' HBW2.out HB.out) hW')) d hd
            have HLM : Hid ((dg 1000000000 m).length ≤ 1000000) := Nat.le_trans (len23 HG.out.2.2) (by decide)
            have hmb : m * b < 10 ^ 202 := by
              have h1 := HG.out.2.2
              have h2 : m * b ≤ m * 36 := Nat.mul_le_mul_left _ HBB.out.2
              omega
            have HLMB : Hid ((dg 1000000000 (m * b)).length ≤ 1000000) := Nat.le_trans (dg_len_small (by omega)) (by decide)
            have HLD : Hid ((dg 1000000000 d).length ≤ 1000000) := Nat.le_trans (dg_len_small (by have := HD36.out; omega)) (by decide)
            have HLM2 : Hid ((dg 1000000000 (m2 : Int).natAbs).length ≤ 1000000) := by show _ ≤ _; rw [Int.natAbs_natCast, ← hm2]; exact Nat.le_trans (dg_len_small (by have := HD36.out; omega)) (by decide)
            have HB9 : Hid (b < 1000000000) := by show _ < _; have := HBB.out.2; omega
            have HD9 : Hid (d < 1000000000) := by show _ < _; have := HD36.out; omega
            obtain ⟨o, ho⟩ : ∃ o, textOut (m2 : Int) = o := ⟨_, rfl⟩
            have HO := Lib.hid ho
            have hib : i < 9223372036854775807 := by omega
            clear hg hx hd1 hd2 hm2 hval hmb ho hce2
            go_wp2_with fail
            go_region_held3 (fun _ => True) (trivial) (first
              | (go_at_call 88; refine (small_c _ m b _ (HG.out.1.below (by first | exact HW3.out | (repeat (first | exact Below.refl _ _ | (refine Below.alloc ?_ (by first | (simp; done) | (simp; omega)) _) | refine Below.drew ?_)))) HLM.out HB9.out).mono ?_; rintro e V3 ⟨u, rfl, hu, -, hbz⟩; obtain ⟨A9, n9, c9, rfl⟩ := hu.form; have HU := Lib.hid hu; have HBZ := Lib.hid hbz; have HW3 := Lib.hid (below_then' (show Below wr.heap.size wr _ from (by first | exact HW3.out | (repeat (first | exact Below.refl _ _ | (refine Below.alloc ?_ (by first | (simp; done) | (simp; omega)) _) | refine Below.drew ?_)))) hbz); clear hu hbz)
              | (go_at_call 86; refine (index_c 36 36 x _ (by decide) (HTW.out _ (by first | exact HW3.out | (repeat (first | exact Below.refl _ _ | (refine Below.alloc ?_ (by first | (simp; done) | (simp; omega)) _) | refine Below.drew ?_))))).mono ?_; rintro e V4 ⟨⟨r, rfl, hr⟩, rfl⟩; obtain rfl : r = (d : Int) := (by rcases hr with ⟨d', h1, _, rfl⟩ | ⟨hn, _⟩ <;> first | (rw [HXD.out] at h1; cases h1; rfl) | exact absurd ⟨d, HXD.out, HD36.out⟩ hn); clear hr)
              | (go_at_call 89; refine (cut1_c _ d _ HD9.out ?_).mono ?_; (first | (with_reducible exact lit_row _ _ _) | exact (lit_row _ _ _).below HBZ.out); rintro e V5 ⟨rfl, v, rfl, hv⟩; obtain ⟨A7, n7, c7, rfl⟩ := hv.form; have HV := Lib.hid hv; clear hv)
              | (go_at_call 76; refine (plus_c _ _ (m * b) d _ ?_ ?_ HLMB.out HLD.out).mono ?_; (first | (with_reducible exact HU.out) | exact HU.out.below ((Below.refl _ _).alloc (Nat.le_refl _) _)); (first | (with_reducible exact HV.out) | exact HV.out.below HBZ.out); rintro e V6 ⟨s, rfl, hs, -, hbz⟩; obtain ⟨A6, n6, c6, rfl⟩ := hs.form; have HS6 := Lib.hid hs; have HW6 := Lib.hid (below_then' (show Below wr.heap.size wr _ from (by repeat (first | exact HW3.out | exact Below.refl _ _ | (refine Below.alloc ?_ (by first | (simp; done) | (have := HW3.out.size; simp; omega)) _) | refine Below.drew ?_))) hbz); clear hs hbz))
            have p6 := keep_cell HW6.out p0
            have f6 := keep_free' HW6.out p0 f0
            have HB6 := Lib.hid (below_then' HB.out HW6.out)
            have HBW6 : Hid (Below w.heap.size w _) := below_then' (below_then' HBW2.out HB.out) HW6.out
            have HSM := HS6.out
            rw [HM2.out] at HSM
            have HWS : Hid (Wh _ (.agg #[.bool false, .slice A6 n6 c6]) (m2 : Int)) := ⟨_, by rw [decide_eq_false (by omega)], HSM⟩
            have HSM2 := Lib.hid HSM
            clear HSM
            cases o with
            | ok r =>
              go_wp2_with (go_at_call 58; refine (text_out _ (m2 : Int) _ HWS.out (HT.out.below HBW6.out) HLM2.out).mono ?_; rw [HO.out]; rintro e V7 ⟨he, hbz⟩; have he2 : e = .returned r := he; subst he2; have f7 := keep_free' hbz p6 f6; have p7 := keep_cell hbz p6; have HB7 := Lib.hid (below_then' HB6.out hbz); have HSM7 := Lib.hid (HSM2.out.below hbz); clear he hbz)
              go_roundg (gk - 1)
              case measure => have h1 := HGK.out; have h2 := HLT.out; omega
              case rel =>
                refine ⟨i + 1, m2, by simp, by have h1 := HGK.out; have h2 := HLT.out; omega, ⟨HSM7.out, HVAL.out.symm, ?_⟩, p7, f7, HB7.out⟩
                have := HO.out
                unfold textOut at this
                split at this
                · rename_i hh; simpa using hh
                · cases this
            | err k =>
              go_wp2_with (go_at_call 58; refine (text_out _ (m2 : Int) _ HWS.out (HT.out.below HBW6.out) HLM2.out).mono ?_; rw [HO.out]; rintro e V7 ⟨he, hbz⟩; have he2 : e = .panicked (failChain k) := he; subst he2; have f7 := keep_free' hbz p6 f6; have p7 := keep_cell hbz p6; have HB7 := Lib.hid (below_then' HBW6.out hbz); clear he hbz)
              refine leaves_cons (f := 87) (args := #[.pointer (some ⟨w.heap.size, 0, none⟩)]) (by simp) (by simp [go_sem]) ?_
              refine (guard_panic ⟨w.heap.size, 0, none⟩ k (.int .i64 0) _ p7 f7).mono ?_
              rintro e u' w'' ⟨rfl, rfl, rfl⟩
              have e0 := set_same (.int .i64 k) (keep_cell ((Below.refl _ V7).alloc (Nat.le_refl _) (.cells #[.int .i64 k] 77)) p7)
              have hk : k = 3 ∧ ¬ m2 < 10 ^ 200 := by
                have := HO.out
                unfold textOut at this
                split at this
                · cases this
                · rename_i hh; cases this; exact ⟨rfl, by simpa using hh⟩
              obtain ⟨rfl, hbig⟩ := hk
              have hbig2 : ¬ (fromB b S.data.toList).natAbs < 10 ^ 200 := by
                have hle := bval_take_le HBB.out.1 D.data.toList (i + 1)
                rw [HVAL.out] at hle
                have hDl : Lib.trimPrefix S.data.toList [45] = D.data.toList := by rw [← HD.out]
                unfold fromB
                rw [hDl]
                split
                · rw [Int.natAbs_neg, Int.natAbs_natCast]; omega
                · rw [Int.natAbs_natCast]; omega
              have hto : textOut (fromB b S.data.toList) = .err 3 := if_neg hbig2
              simp [Leaves, settle, results, Tryz.results37, go_sem, e0]
              refine .inl ⟨HALL.out, ?_, (HB7.out.alloc HB7.out.size _).setCell (p := ⟨w.heap.size, 0, none⟩) (Nat.le_refl _) _⟩
              rw [hto]; rfl
          · have hi : i = D.size := by omega
            have HM : Hid (m = bval b D.data.toList) := by show _ = _; rw [HG.out.2.1, hi, List.take_of_length_le (by rw [Array.length_toList]; exact Nat.le_refl _)]
            have hDl : Lib.trimPrefix S.data.toList [45] = D.data.toList := by rw [← HD.out]
            have hneg2 : neg = decide (S.data.toList.head? = some 45) := by rw [← HNEG.out]; exact prefix_head _
            obtain ⟨z, hz⟩ : ∃ z, fromB b S.data.toList = z := ⟨_, rfl⟩
            have hzn : z.natAbs = m := by
              rw [← hz]; unfold fromB; rw [hDl, ← HM.out]
              split
              · rw [Int.natAbs_neg, Int.natAbs_natCast]
              · rw [Int.natAbs_natCast]
            have hzs : (neg && decide (0 < m)) = decide (z < 0) := by
              rw [hneg2, ← hz]; unfold fromB; rw [hDl, ← HM.out]
              by_cases hh : S.data.toList.head? = some 45
              · rw [if_pos hh, decide_eq_true hh, Bool.true_and, decide_eq_decide]; omega
              · rw [if_neg hh, decide_eq_false hh, Bool.false_and]; symm; rw [decide_eq_false_iff_not]; omega
            have HZ := Lib.hid hz
            have HZF : Hid (textOut z = .ok (.string ⟨(Lib.itoa z).toArray⟩)) := if_pos (by rw [hzn]; exact HG.out.2.2)
            have HLZ : Hid ((dg 1000000000 z.natAbs).length ≤ 1000000) := by show _ ≤ _; rw [hzn]; exact Nat.le_trans (len23 HG.out.2.2) (by decide)
            have HWZ : Hid (Wh wr (.agg #[.bool (neg && decide (0 < m)), .slice A8 n8 c8]) z) := ⟨_, by rw [hzs], by rw [hzn]; exact HG.out.1⟩
            have HBW8 : Hid (Below w.heap.size w wr) := below_then' HBW2.out HB.out
            clear hg hi hDl hneg2 hz hzn hzs
            go_wp2_with (first
              | (go_at_call 60; refine (made_c _ _ m _ HG.out.1).mono ?_; rintro e V7 ⟨rfl, hbz⟩; have f7 := keep_free' hbz p0 f0; have p7 := keep_cell hbz p0; have HWZ7 := Lib.hid (HWZ.out.below hbz); have HB7 := Lib.hid (below_then' HBW8.out hbz); obtain ⟨bz, hbzz⟩ : ∃ bz, (neg && decide (0 < m)) = bz := ⟨_, rfl⟩; rw [hbzz]; rw [hbzz] at HWZ7; clear hbz hbzz)
              | (go_at_call 58; refine (text_out _ z _ HWZ7.out (HT.out.below HB7.out) HLZ.out).mono ?_; rw [HZF.out]; rintro e V8 ⟨he, hbz⟩; have he2 : e = .returned (.string ⟨(Lib.itoa z).toArray⟩) := he; subst he2; have f8 := keep_free' hbz p7 f7; have p8 := keep_cell hbz p7; have HB8 := Lib.hid (below_then' HB7.out hbz); clear he hbz))
            refine leaves_cons (f := 87) (args := #[.pointer (some ⟨w.heap.size, 0, none⟩)]) (by simp) (by simp [go_sem]) ?_
            refine (guard_idle ⟨w.heap.size, 0, none⟩ _).mono ?_
            rintro e u' w'' ⟨rfl, rfl, rfl⟩
            have e0 := set_same (.int .i64 0) p8
            simp [Leaves, settle, results, Tryz.results37, go_sem, e0]
            refine .inl ⟨HALL.out, ?_, HB8.out.setCell (p := ⟨w.heap.size, 0, none⟩) (Nat.le_refl _) _⟩
            rw [HZ.out, HZF.out]; rfl
  · go_enter_defers Tryz.func37, Tryz.ntmps37
    go_wp2_with (go_at_call 85; refine (Tryz.strings_CutPrefix S _ _).mono ?_; rintro e W3 ⟨rfl, rfl⟩; rw [show (ByteArray.mk #[45]).data.toList = [45] from rfl, HD.out, HNEG.out])
    clear hc
    go_loopg [4, 38] D.size (fun gk sv iv wr => ∃ i : Nat, sv = .string ⟨#[]⟩ ∧ iv = .int .i64 i ∧ i + gk = D.size ∧ Hid (∀ j (hj : j < D.size), j < i → ∃ d, idxOf (D[j]'hj) = some d ∧ d < b) ∧ wr = W1)
    case atStart => exact ⟨0, rfl, rfl, by omega, fun j hj h => by omega, rfl⟩
    case round =>
      obtain ⟨i, rfl, rfl, hg, HN, hwr⟩ := hrel
      have hwr' := hwr.symm
      clear hwr
      subst hwr'
      have HGK := Lib.hid hg
      by_cases hlt : i < D.size
      · have hce := HCL.out i hlt
        obtain ⟨x, hx⟩ : ∃ x, D[i]'hlt = x := ⟨_, rfl⟩
        rw [hx] at hce
        have HXX := Lib.hid hx
        have HLT := Lib.hid hlt
        by_cases hq : ∃ d, idxOf x = some d ∧ d < b
        · have HQ := Lib.hid hq
          clear hg hx hq
          go_wp2_with (go_at_call 86; refine (index_c b 36 x _ HBB.out.2 HDIG.out).mono ?_; rintro e V4 ⟨⟨r, rfl, hr⟩, rfl⟩; have hr1 : ¬ r < 0 := (by rcases hr with ⟨d, _, _, rfl⟩ | ⟨hn, _⟩ <;> first | (omega) | exact absurd HQ.out hn); have hr0 : decide (r < 0) = false := decide_eq_false hr1; clear hr)
          go_roundg (gk - 1)
          case measure => have h1 := HGK.out; have h2 := HLT.out; omega
          case rel =>
            refine ⟨i + 1, rfl, by simp, by have h1 := HGK.out; have h2 := HLT.out; omega, fun j hj h => ?_, rfl⟩
            rcases Nat.lt_or_ge j i with h' | h'
            · exact HN.out j hj h'
            · obtain rfl : j = i := by omega
              rw [HXX.out]; exact HQ.out
        · have hnd : ¬ bdigs b D.data.toList := fun hh => hq (by have := hh (D[i]'hlt) (by exact Array.mem_toList_iff.2 (Array.getElem_mem hlt)); rw [hx] at this; exact this)
          have HND := Lib.hid hnd
          have HQ := Lib.hid hq
          clear hg hx hq hnd
          go_wp2_with (go_at_call 86; refine (index_c b 36 x _ HBB.out.2 HDIG.out).mono ?_; rintro e V4 ⟨⟨r, rfl, hr⟩, rfl⟩; obtain rfl : r = -1 := (by rcases hr with ⟨d, h1, h2, _⟩ | ⟨_, hh⟩ <;> first | exact hh | exact absurd ⟨d, h1, h2⟩ HQ.out); clear hr)
          have e0 := set_same (.int .i64 7) q0
          simp [bodyPostD, Leaves, results, Tryz.results37, go_sem, e0]
          exact .inr ⟨HND.out, rfl, HBW.out.setCell (p := ⟨w.heap.size, 0, none⟩) (Nat.le_refl _) _⟩
      · have hall : bdigs b D.data.toList := fun x hx => by
          obtain ⟨j, hj, e⟩ := List.getElem_of_mem hx
          have hj' : j < D.size := by rw [Array.length_toList] at hj; exact hj
          have := HN.out j hj' (by omega)
          rw [← e]; exact this
        have HALL := Lib.hid hall
        obtain ⟨W2, c2, hcv2, hb2', hs2, hcell2⟩ := bytes_new W1 D
        have HCL2 := Lib.hid hcell2
        have HS2 := Lib.hid hs2
        have q2 := keep_cell hb2' q0
        have z2 := keep_free' hb2' q0 z0
        have HB2 := Lib.hid hb2'
        have HBW2 : Hid (Below w.heap.size w W2) := below_then' HBW.out hb2'
        clear hg hall hb2' hs2 hcell2 hcv
        go_wp2_with fail
        go_loopg [10, 51] D.size (fun gk pv iv wr => ∃ (i m : Nat), iv = .int .i64 i ∧ i + gk = D.size ∧ Hid (Dg 1000000000 wr pv m ∧ m = bval b (D.data.toList.take i) ∧ m < 10 ^ 200) ∧ wr.cell? ⟨w.heap.size, 0, none⟩ = some (.int .i64 0) ∧ wr.frozen? ⟨w.heap.size, 0, none⟩ = false ∧ Hid (Below W2.heap.size W2 wr))
        case atStart => exact ⟨0, 0, rfl, by omega, ⟨Dg.zero (by decide) .., by simp [bval], by decide⟩, q2, z2, Below.refl _ _⟩
        case round =>
          obtain ⟨i, m, rfl, hg, HG, p0, f0, HB⟩ := hrel
          have HGK := Lib.hid hg
          obtain ⟨A8, n8, c8, rfl⟩ := HG.out.1.form
          by_cases hlt : i < D.size
          · have hce := keep_cell HB.out (HCL2.out i hlt)
            obtain ⟨x, hx⟩ : ∃ x, D[i]'hlt = x := ⟨_, rfl⟩
            rw [hx] at hce
            have hce2 : wr.drew.cell? ⟨W1.heap.size, i, none⟩ = some (.int .u8 (x.toNat : Int)) := hce
            obtain ⟨d, hd1, hd2⟩ := HALL.out x (by rw [← hx]; exact Array.mem_toList_iff.2 (Array.getElem_mem hlt))
            have HD36 : Hid (d < 36) := Nat.lt_of_lt_of_le hd2 HBB.out.2
            have HXD := Lib.hid hd1
            obtain ⟨m2, hm2⟩ : ∃ m2, m * b + d = m2 := ⟨_, rfl⟩
            have HM2 := Lib.hid hm2
            have HLT := Lib.hid hlt
            have hval : bval b (D.data.toList.take (i + 1)) = m2 := by
              rw [List.take_succ_eq_append_getElem (by rw [Array.length_toList]; exact hlt), bval_snoc, ← HG.out.2.1, ← hm2]
              congr 1
              have : D.data.toList[i]'(by rw [Array.length_toList]; exact hlt) = x := by rw [← hx]; rfl
              rw [this, hd1]; rfl
            have HVAL := Lib.hid hval
            have HTW : Hid (∀ W', Below wr.heap.size wr W' → ∀ d, d < 36 → W'.cell? ⟨0, d, none⟩ = some (.int .u8 ((chr d).toNat : Int))) := fun W' hW' d hd => digit_cell (HT.out.below (below_then' (below_then' HBW2.out HB.out) hW')) d hd
            have HLM : Hid ((dg 1000000000 m).length ≤ 1000000) := Nat.le_trans (len23 HG.out.2.2) (by decide)
            have hmb : m * b < 10 ^ 202 := by
              have h1 := HG.out.2.2
              have h2 : m * b ≤ m * 36 := Nat.mul_le_mul_left _ HBB.out.2
              omega
            have HLMB : Hid ((dg 1000000000 (m * b)).length ≤ 1000000) := Nat.le_trans (dg_len_small (by omega)) (by decide)
            have HLD : Hid ((dg 1000000000 d).length ≤ 1000000) := Nat.le_trans (dg_len_small (by have := HD36.out; omega)) (by decide)
            have HLM2 : Hid ((dg 1000000000 (m2 : Int).natAbs).length ≤ 1000000) := by show _ ≤ _; rw [Int.natAbs_natCast, ← hm2]; exact Nat.le_trans (dg_len_small (by have := HD36.out; omega)) (by decide)
            have HB9 : Hid (b < 1000000000) := by show _ < _; have := HBB.out.2; omega
            have HD9 : Hid (d < 1000000000) := by show _ < _; have := HD36.out; omega
            obtain ⟨o, ho⟩ : ∃ o, textOut (m2 : Int) = o := ⟨_, rfl⟩
            have HO := Lib.hid ho
            have hib : i < 9223372036854775807 := by omega
            clear hg hx hd1 hd2 hm2 hval hmb ho hce2
            go_wp2_with fail
            go_region_held3 (fun _ => True) (trivial) (first
              | (go_at_call 88; refine (small_c _ m b _ (HG.out.1.below (by first | exact HW3.out | (repeat (first | exact Below.refl _ _ | (refine Below.alloc ?_ (by first | (simp; done) | (simp; omega)) _) | refine Below.drew ?_)))) HLM.out HB9.out).mono ?_; rintro e V3 ⟨u, rfl, hu, -, hbz⟩; obtain ⟨A9, n9, c9, rfl⟩ := hu.form; have HU := Lib.hid hu; have HBZ := Lib.hid hbz; have HW3 := Lib.hid (below_then' (show Below wr.heap.size wr _ from (by first | exact HW3.out | (repeat (first | exact Below.refl _ _ | (refine Below.alloc ?_ (by first | (simp; done) | (simp; omega)) _) | refine Below.drew ?_)))) hbz); clear hu hbz)
              | (go_at_call 86; refine (index_c 36 36 x _ (by decide) (HTW.out _ (by first | exact HW3.out | (repeat (first | exact Below.refl _ _ | (refine Below.alloc ?_ (by first | (simp; done) | (simp; omega)) _) | refine Below.drew ?_))))).mono ?_; rintro e V4 ⟨⟨r, rfl, hr⟩, rfl⟩; obtain rfl : r = (d : Int) := (by rcases hr with ⟨d', h1, _, rfl⟩ | ⟨hn, _⟩ <;> first | (rw [HXD.out] at h1; cases h1; rfl) | exact absurd ⟨d, HXD.out, HD36.out⟩ hn); clear hr)
              | (go_at_call 89; refine (cut1_c _ d _ HD9.out ?_).mono ?_; (first | (with_reducible exact lit_row _ _ _) | exact (lit_row _ _ _).below HBZ.out); rintro e V5 ⟨rfl, v, rfl, hv⟩; obtain ⟨A7, n7, c7, rfl⟩ := hv.form; have HV := Lib.hid hv; clear hv)
              | (go_at_call 76; refine (plus_c _ _ (m * b) d _ ?_ ?_ HLMB.out HLD.out).mono ?_; (first | (with_reducible exact HU.out) | exact HU.out.below ((Below.refl _ _).alloc (Nat.le_refl _) _)); (first | (with_reducible exact HV.out) | exact HV.out.below HBZ.out); rintro e V6 ⟨s, rfl, hs, -, hbz⟩; obtain ⟨A6, n6, c6, rfl⟩ := hs.form; have HS6 := Lib.hid hs; have HW6 := Lib.hid (below_then' (show Below wr.heap.size wr _ from (by repeat (first | exact HW3.out | exact Below.refl _ _ | (refine Below.alloc ?_ (by first | (simp; done) | (have := HW3.out.size; simp; omega)) _) | refine Below.drew ?_))) hbz); clear hs hbz))
            have p6 := keep_cell HW6.out p0
            have f6 := keep_free' HW6.out p0 f0
            have HB6 := Lib.hid (below_then' HB.out HW6.out)
            have HBW6 : Hid (Below w.heap.size w _) := below_then' (below_then' HBW2.out HB.out) HW6.out
            have HSM := HS6.out
            rw [HM2.out] at HSM
            have HWS : Hid (Wh _ (.agg #[.bool false, .slice A6 n6 c6]) (m2 : Int)) := ⟨_, by rw [decide_eq_false (by omega)], HSM⟩
            have HSM2 := Lib.hid HSM
            clear HSM
            cases o with
            | ok r =>
              go_wp2_with (go_at_call 58; refine (text_out _ (m2 : Int) _ HWS.out (HT.out.below HBW6.out) HLM2.out).mono ?_; rw [HO.out]; rintro e V7 ⟨he, hbz⟩; have he2 : e = .returned r := he; subst he2; have f7 := keep_free' hbz p6 f6; have p7 := keep_cell hbz p6; have HB7 := Lib.hid (below_then' HB6.out hbz); have HSM7 := Lib.hid (HSM2.out.below hbz); clear he hbz)
              go_roundg (gk - 1)
              case measure => have h1 := HGK.out; have h2 := HLT.out; omega
              case rel =>
                refine ⟨i + 1, m2, by simp, by have h1 := HGK.out; have h2 := HLT.out; omega, ⟨HSM7.out, HVAL.out.symm, ?_⟩, p7, f7, HB7.out⟩
                have := HO.out
                unfold textOut at this
                split at this
                · rename_i hh; simpa using hh
                · cases this
            | err k =>
              go_wp2_with (go_at_call 58; refine (text_out _ (m2 : Int) _ HWS.out (HT.out.below HBW6.out) HLM2.out).mono ?_; rw [HO.out]; rintro e V7 ⟨he, hbz⟩; have he2 : e = .panicked (failChain k) := he; subst he2; have f7 := keep_free' hbz p6 f6; have p7 := keep_cell hbz p6; have HB7 := Lib.hid (below_then' HBW6.out hbz); clear he hbz)
              refine leaves_cons (f := 87) (args := #[.pointer (some ⟨w.heap.size, 0, none⟩)]) (by simp) (by simp [go_sem]) ?_
              refine (guard_panic ⟨w.heap.size, 0, none⟩ k (.int .i64 0) _ p7 f7).mono ?_
              rintro e u' w'' ⟨rfl, rfl, rfl⟩
              have e0 := set_same (.int .i64 k) (keep_cell ((Below.refl _ V7).alloc (Nat.le_refl _) (.cells #[.int .i64 k] 77)) p7)
              have hk : k = 3 ∧ ¬ m2 < 10 ^ 200 := by
                have := HO.out
                unfold textOut at this
                split at this
                · cases this
                · rename_i hh; cases this; exact ⟨rfl, by simpa using hh⟩
              obtain ⟨rfl, hbig⟩ := hk
              have hbig2 : ¬ (fromB b S.data.toList).natAbs < 10 ^ 200 := by
                have hle := bval_take_le HBB.out.1 D.data.toList (i + 1)
                rw [HVAL.out] at hle
                have hDl : Lib.trimPrefix S.data.toList [45] = D.data.toList := by rw [← HD.out]
                unfold fromB
                rw [hDl]
                split
                · rw [Int.natAbs_neg, Int.natAbs_natCast]; omega
                · rw [Int.natAbs_natCast]; omega
              have hto : textOut (fromB b S.data.toList) = .err 3 := if_neg hbig2
              simp [Leaves, settle, results, Tryz.results37, go_sem, e0]
              refine .inl ⟨HALL.out, ?_, (HB7.out.alloc HB7.out.size _).setCell (p := ⟨w.heap.size, 0, none⟩) (Nat.le_refl _) _⟩
              rw [hto]; rfl
          · have hi : i = D.size := by omega
            have HM : Hid (m = bval b D.data.toList) := by show _ = _; rw [HG.out.2.1, hi, List.take_of_length_le (by rw [Array.length_toList]; exact Nat.le_refl _)]
            have hDl : Lib.trimPrefix S.data.toList [45] = D.data.toList := by rw [← HD.out]
            have hneg2 : neg = decide (S.data.toList.head? = some 45) := by rw [← HNEG.out]; exact prefix_head _
            obtain ⟨z, hz⟩ : ∃ z, fromB b S.data.toList = z := ⟨_, rfl⟩
            have hzn : z.natAbs = m := by
              rw [← hz]; unfold fromB; rw [hDl, ← HM.out]
              split
              · rw [Int.natAbs_neg, Int.natAbs_natCast]
              · rw [Int.natAbs_natCast]
            have hzs : (neg && decide (0 < m)) = decide (z < 0) := by
              rw [hneg2, ← hz]; unfold fromB; rw [hDl, ← HM.out]
              by_cases hh : S.data.toList.head? = some 45
              · rw [if_pos hh, decide_eq_true hh, Bool.true_and, decide_eq_decide]; omega
              · rw [if_neg hh, decide_eq_false hh, Bool.false_and]; symm; rw [decide_eq_false_iff_not]; omega
            have HZ := Lib.hid hz
            have HZF : Hid (textOut z = .ok (.string ⟨(Lib.itoa z).toArray⟩)) := if_pos (by rw [hzn]; exact HG.out.2.2)
            have HLZ : Hid ((dg 1000000000 z.natAbs).length ≤ 1000000) := by show _ ≤ _; rw [hzn]; exact Nat.le_trans (len23 HG.out.2.2) (by decide)
            have HWZ : Hid (Wh wr (.agg #[.bool (neg && decide (0 < m)), .slice A8 n8 c8]) z) := ⟨_, by rw [hzs], by rw [hzn]; exact HG.out.1⟩
            have HBW8 : Hid (Below w.heap.size w wr) := below_then' HBW2.out HB.out
            clear hg hi hDl hneg2 hz hzn hzs
            go_wp2_with (first
              | (go_at_call 60; refine (made_c _ _ m _ HG.out.1).mono ?_; rintro e V7 ⟨rfl, hbz⟩; have f7 := keep_free' hbz p0 f0; have p7 := keep_cell hbz p0; have HWZ7 := Lib.hid (HWZ.out.below hbz); have HB7 := Lib.hid (below_then' HBW8.out hbz); obtain ⟨bz, hbzz⟩ : ∃ bz, (neg && decide (0 < m)) = bz := ⟨_, rfl⟩; rw [hbzz]; rw [hbzz] at HWZ7; clear hbz hbzz)
              | (go_at_call 58; refine (text_out _ z _ HWZ7.out (HT.out.below HB7.out) HLZ.out).mono ?_; rw [HZF.out]; rintro e V8 ⟨he, hbz⟩; have he2 : e = .returned (.string ⟨(Lib.itoa z).toArray⟩) := he; subst he2; have f8 := keep_free' hbz p7 f7; have p8 := keep_cell hbz p7; have HB8 := Lib.hid (below_then' HB7.out hbz); clear he hbz))
            refine leaves_cons (f := 87) (args := #[.pointer (some ⟨w.heap.size, 0, none⟩)]) (by simp) (by simp [go_sem]) ?_
            refine (guard_idle ⟨w.heap.size, 0, none⟩ _).mono ?_
            rintro e u' w'' ⟨rfl, rfl, rfl⟩
            have e0 := set_same (.int .i64 0) p8
            simp [Leaves, settle, results, Tryz.results37, go_sem, e0]
            refine .inl ⟨HALL.out, ?_, HB8.out.setCell (p := ⟨w.heap.size, 0, none⟩) (Nat.le_refl _) _⟩
            rw [HZ.out, HZF.out]; rfl

theorem trim_len (l : List UInt8) : (Lib.trimPrefix l [45]).length ≤ l.length := by
  by_cases h : l.head? = some 45
  · cases l with
    | nil => cases h
    | cons c r =>
      have hc : c = 45 := by simpa using h
      rw [hc, trim_minus]; simp
  · rw [trim_other h]; exact Nat.le_refl _

theorem numFromBase_c (S : ByteArray) (b : Nat) (hb : 2 ≤ b) (hb2 : b ≤ 36) (hS : S.size ≤ 1000) (w : World) (ht : Tabs w) :
    Calls Tryz.prog 37 #[.string S, .int .i64 (b : Int)] w fun e w' => (formB b S.data.toList ∧ FromP b S w e w') ∨ (¬ formB b S.data.toList ∧ FormErr w e w') := by
  obtain ⟨D, hD⟩ : ∃ D : ByteArray, ⟨(Lib.trimPrefix S.data.toList [45]).toArray⟩ = D := ⟨_, rfl⟩
  have hDl : Lib.trimPrefix S.data.toList [45] = D.data.toList := by rw [← hD]
  have hsz : D.size = D.data.toList.length := by rw [Array.length_toList]; rfl
  by_cases h0 : Lib.trimPrefix S.data.toList [45] = []
  · refine (fb_empty S b hb hb2 w h0).mono fun e w' h => .inr ⟨fun hf => hf.1 h0, h⟩
  · have hpos : 0 < D.size := by rw [hsz, ← hDl]; exact List.length_pos_iff.2 h0
    have hdl : D.size ≤ 1000 := by
      have h1 := trim_len S.data.toList
      rw [hDl, ← hsz] at h1
      have h2 : S.data.toList.length = S.size := by rw [Array.length_toList]; rfl
      omega
    have hhd : D.data.toList.head? = some (D[0]'hpos) := by
      have : 0 < D.data.toList.length := by omega
      rw [List.head?_eq_getElem?, List.getElem?_eq_getElem this]
      rfl
    have hls : S.toList = [48] ↔ S.data.toList = [48] := by rw [ByteArray.toList_eq]
    by_cases hc : ((D[0]'hpos).toNat : Int) = 48
    · have h48 : D[0]'hpos = 48 := UInt8.toNat_inj.1 (by have : (48 : UInt8).toNat = 48 := rfl; omega)
      by_cases hs : S.toList = [48]
      · refine (fb_digits S b hb hb2 w ht D hD hpos hdl (.inl ⟨by simpa using hc, by simp [hs]⟩)).mono ?_
        rintro e w' (⟨h1, h2⟩ | ⟨h1, h2⟩)
        · exact .inl ⟨⟨h0, fun h => h.2 (hls.1 hs), by rw [hDl]; exact h1⟩, h2⟩
        · exact .inr ⟨fun hf => h1 (by rw [← hDl]; exact hf.2.2), h2⟩
      · refine (fb_zero S b hb hb2 w D hD hpos hc hs).mono fun e w' h => .inr ⟨fun hf => hf.2.1 ⟨by rw [hDl, hhd, h48], fun e => hs (hls.2 e)⟩, h⟩
    · refine (fb_digits S b hb hb2 w ht D hD hpos hdl (.inr (by simpa using hc))).mono ?_
      rintro e w' (⟨h1, h2⟩ | ⟨h1, h2⟩)
      · refine .inl ⟨⟨h0, fun h => hc ?_, by rw [hDl]; exact h1⟩, h2⟩
        have h3 := h.1
        rw [hDl, hhd] at h3
        have h4 : D[0]'hpos = 48 := Option.some.inj h3
        rw [h4]; rfl
      · exact .inr ⟨fun hf => h1 (by rw [← hDl]; exact hf.2.2), h2⟩

end Go.Proofs.YtbjgpbdkofadiaaGreatDoor
