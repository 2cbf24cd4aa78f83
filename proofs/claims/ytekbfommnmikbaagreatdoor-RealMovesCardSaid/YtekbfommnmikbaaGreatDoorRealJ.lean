/- An iterator without an end that keeps its state in a cell; a loop over it that leaves by break. -/
import Derived.Test.YtekbfommnmikbaaGreatDoorRealI
namespace Go.Proofs.YtekbfommnmikbaaGreatDoor
set_option linter.unusedVariables false
set_option linter.unusedSimpArgs false
open Go.RowKit Go.Shelf Go.Proofs

/-- The iterator: its k-th item; between two rounds it may write block mb; the body keeps what lies below n₀. -/
def Endless (F : Fence) (n : Nat) (P : Program) (gf : Nat) (lb : Array Value) (item : Nat → Int × Bool) (n₀ mb N : Nat) (w : World) : Prop :=
  ∀ (l : Nat) (J Jx : Nat → World → Prop) (W : World), Below w.heap.size w W →
    (∀ k W1, J k W1 → k < N) → (∀ k W1 v, J k W1 → J k (W1.setCell ⟨mb, 0, none⟩ v)) → (∀ k W1 W2, J k W1 → W1.grownBy W2 none → J k W2) →
    (∀ k W1, J k W1 → YieldAt F (n - 1) P l #[.int .u8 (item k).1, .bool (item k).2] W1 fun e W' => (e = .returned (.bool true) ∧ J (k + 1) W' ∧ Below n₀ W1 W') ∨ (e = .returned (.bool false) ∧ Jx (k + 1) W')) →
    J 0 W → CallsIn F n P gf (#[.func (.yield l) #[] #[]] ++ lb) W fun e W' => (∃ v, e = .returned v) ∧ ∃ k, Jx (k + 1) W'

/-- How a round ends. -/
def endPost (n₀ id : Nat) (I Ix : Nat → World → Prop) (k : Nat) (W : World) (e : Exit) (W' : World) : Prop :=
  (e = .normal ∧ KeepsOthers W W' ∧ Below n₀ W W' ∧ I (k + 1) W') ∨ (e = .exit id ∧ KeepsOthers W W' ∧ Ix (k + 1) W')

theorem range_endless {F : Fence} {n : Nat} {P : Program} {g : Operand} {ps : Array Tmp} {assign body : Code} {Q : Exit → Act → World → Prop} {a : Act} {w w0 : World} {gf : Nat} {lb : Array Value} {item : Nat → Int × Bool} {n₀ mb N id : Nat}
    (hro : F.round = none) (h1 : 1 ≤ n) (hg : a.eval g = .func (.func gf) #[] lb) (hFg : F.fn gf) (eg : ∀ args w, (callFunc gf args).run P w = .ok (.enter gf args) w)
    (hseq : Endless F (n - 1) P gf lb item n₀ mb N w0) (hb0 : Below w0.heap.size w0 w) (hn₀ : n₀ ≤ w.heap.size) (hmb : mb < w.heap.size) (hps : ps.size = 2)
    (I Ix : Nat → World → Prop) (hI : OwnFrom w.heap.size I) (hIx : OwnFrom w.heap.size Ix) (hIm : ∀ k W v, I k W → I k (W.setCell ⟨mb, 0, none⟩ v)) (hIN : ∀ k W, I k W → k < N) (h0 : I 0 w) (a₁ : Nat → Act)
    (hassign : ∀ (l k : Nat) (W : World) (K : Act → World → Prop), K (a₁ k) W → assign.wpIn (F.inRound l) (n - 1 - 1) P (Exit.then K (fun _ _ _ => False)) { tmps := (ps.zip #[.int .u8 (item k).1, .bool (item k).2]).foldl (fun t (p, v) => t.setIfInBounds p v) a.tmps, defers := [] } W)
    (hbody : ∀ (l k : Nat) (W : World), I k W → body.wpIn (F.inRound l) (n - 1 - 1) P (fun e _ W' => endPost n₀ id I Ix k W e W') (a₁ k) W)
    (hstop : ∀ (D k : Nat) (W : World), w.heap.size ≤ D → Ix (k + 1) W → W.heap[D]? = some (.deferred (some [])) → (Code.exit id).wpIn F n P Q { a with defers := { target := .collected D, args := #[] } :: a.defers } W) :
    (Code.rangeFunc g ps assign body).wpIn F n P Q a w := by
  apply wpIn_rangeFunc
  intro fn hfn
  rw [hro]
  -- the two blocks of the loop's books: D (deferred calls), D + 1 (the record R)
  let R : LoopState → Option Code → Loop := fun st pe => { state := st, pending := pe, fn, tmps := a.tmps, params := ps, assign, body, defers := w.heap.size }
  let Bk : LoopState → Option Code → World → Prop := fun st pe W => W.heap[w.heap.size + 1]? = some (.loop (R st pe)) ∧ W.heap[w.heap.size]? = some (.deferred (some []))
  have put : ∀ {st st' pe pe'} {W : World}, Bk st pe W → Bk st' pe' (W.putObj (w.heap.size + 1) (.loop (R st' pe'))) := fun hb =>
    ⟨World.putObj_heap_same (Array.getElem?_eq_some_iff.1 hb.1).1, (World.putObj_heap_other (by omega)).trans hb.2⟩
  have cell : ∀ {st pe} {W : World} (v : Value), Bk st pe W → Bk st pe (W.setCell ⟨mb, 0, none⟩ v) := fun v hb =>
    ⟨(Below.heap_setCell _ _ _ _ (by simp; omega)).trans hb.1, (Below.heap_setCell _ _ _ _ (by simp; omega)).trans hb.2⟩
  have grow : ∀ {st pe} {W W' : World}, Bk st pe W → W.grownBy W' none → Bk st pe W' := fun hb hg' =>
    ⟨(hg'.block _ (Array.getElem?_eq_some_iff.1 hb.1).1 (by simp)).trans hb.1, (hg'.block _ (Array.getElem?_eq_some_iff.1 hb.2).1 (by simp)).trans hb.2⟩
  have keep : ∀ {st pe} {W W' : World}, Bk st pe W → KeepsOthers W W' → Bk st pe W' := fun hb hk => ⟨hk.same _ _ hb.1 rfl, hk.same _ _ hb.2 rfl⟩
  obtain ⟨W1, hW1⟩ : ∃ W1, (w.alloc (.deferred (some []))).alloc (.loop (R .ready none)) = W1 := ⟨_, rfl⟩
  have hbk : Bk .ready none W1 := by
    rw [← hW1]
    exact ⟨heap_new' _ _ _ (by simp), heap_old _ (heap_alloc_new _ _)⟩
  have hI1 : I 0 W1 := by rw [← hW1]; exact hI.alloc _ (hI.alloc _ h0)
  have hbel : Below w0.heap.size w0 W1 := by
    rw [← hW1]; exact belowA (belowA hb0 _) _
  refine ⟨w.heap.size + 1, [{ target := .collected w.heap.size, args := #[] }], W1, { target := .fn (.func gf) lb, args := #[.func (.yield (w.heap.size + 1)) #[] #[]] }, W1, gf, #[.func (.yield (w.heap.size + 1)) #[] #[]] ++ lb, W1, ?_, ?_, ?_, ?_, fun _ => h1, ?_⟩
  · rw [← hW1]; exact run_enterLoop_outer _ _ _ _ _
  · simp only [resolve, hg]
    simp [go_sem]
  · intro f' hf'
    simp [Target.leads] at hf'
    exact hf' ▸ hFg
  · simp [invoke, go_sem, eg]
  refine (hseq (w.heap.size + 1) (fun k W => I k W ∧ Bk .ready none W) (fun k W => Ix k W ∧ Bk .done (some (.exit id)) W) W1 hbel (fun k W h => hIN k W h.1) (fun k W v h => ⟨hIm k W v h.1, cell v h.2⟩)
    (fun k A B h hg' => ⟨hI k A B none h.1 hg' (fun r e => by cases e), grow h.2 hg'⟩) ?_ ⟨hI1, hbk⟩).mono ?_
  · rintro k W ⟨hi, hb⟩
    refine ⟨fn, _, assign, body, run_yield (r := R .ready none) hb.1 (by simpa using hps.symm), roundIn_of_wpIn hfn (hassign _ k W _ ⟨_, run_beginRound (r := R .ready none) hb.1 rfl, ?_⟩)⟩
    have hb2 : Bk .busy none (W.putObj (w.heap.size + 1) (.loop (R .busy none))) := put hb
    refine wpIn_mono (hbody _ k _ (hI.putObj _ hi (by omega) hb.1 rfl)) ?_
    have hw2 : Below n₀ W (W.putObj (w.heap.size + 1) (.loop (R .busy none))) := belowK_b hn₀ _ _ _ _ (by omega) hb.1 rfl rfl
    rintro e a3 W3 (⟨rfl, hk3, hkp, hi3⟩ | ⟨rfl, hk3, hi3⟩)
    · have hb3 : Bk .busy none W3 := keep hb2 hk3
      exact ⟨_, _, run_endRound (r := R .busy none) none hb3.1, .inl ⟨rfl, ⟨hI.putObj _ hi3 (by omega) hb3.1 rfl, put (st' := .ready) (pe' := none) hb3⟩, (hw2.trans hkp).trans (belowK_b hn₀ _ _ _ _ (by omega) hb3.1 rfl rfl)⟩⟩
    · have hb3 : Bk .busy none W3 := keep hb2 hk3
      exact ⟨_, _, run_endRound (r := R .busy none) (some (.exit id)) hb3.1, .inr ⟨rfl, hIx.putObj _ hi3 (by omega) hb3.1 rfl, put (st' := .done) (pe' := some (.exit id)) hb3⟩⟩
  · rintro e W2 ⟨⟨v, rfl⟩, k, hi, hb⟩
    exact ⟨some (.exit id), _, run_endLoop (r := R .done (some (.exit id))) hb.1 (by simp [R]), hstop _ k _ (Nat.le_refl _) (hIx.putObj _ hi (by omega) hb.1 rfl) ((World.putObj_heap_other (by omega)).trans hb.2)⟩
end Go.Proofs.YtekbfommnmikbaaGreatDoor
