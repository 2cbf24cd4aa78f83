/- What the listed variables give the walks; the heap that start-up code leaves meets the condition. Reals are opened and shut. -/
import Derived.Test.YtekbfommnmikbaaGreatDoorRows
import Derived.Test.YtekbfommnmikbaaGreatDoorSanity
import Derived.ProofKit
import Derived.LaidMore
import Derived.Lay
import Derived.OpenShut
import Derived.Stop.Joined
import Derived.ChangeSame
namespace Go.Proofs.YtekbfommnmikbaaGreatDoor
set_option linter.unusedVariables false
set_option linter.unusedSimpArgs false
open Go.ChangeShapes Go.WideShapes Go.ChangeAt Go.WideMaps Go.WideElems Go.RowKit

theorem ownKnob_none : ownKnob Tryz.prog.godebug = none := by kernel_rfl

/-- The listed variables. -/
def laidA : List (String × DataW Unit) := [("math/bits.deBruijn32tab", Rows.laid_math_bits_deBruijn32tab), ("math/bits.deBruijn64tab", Rows.laid_math_bits_deBruijn64tab), ("internal/strconv.uint64pow10", Rows.laid_internal_strconv_uint64pow10), ("unicode/utf8.acceptRanges", Rows.laid_unicode_utf8_acceptRanges), ("unicode/utf8.first", Rows.laid_unicode_utf8_first)]

/-- A world in which the listed variables lie meets the condition. -/
theorem door_metA (os : Os) (args : Array Value) : laidMetH Tryz.prog laidA ((World.laidAll Tryz.prog os laidA).forCall (fun _ _ => 0) ⟨#[], args, []⟩).memory := by
  rw [MakeChecks.laidMetH_plain _ _ _ (by kernel_rfl)]
  exact laidMet_laidAll _ (by kernel_rfl) (by kernel_rfl)

/-- One listed variable reads as it is listed. -/
def ReadsAs (P : Program) (w : World) (n : String) (d : DataW Unit) : Prop :=
  ∃ g t cs fuel p, P.globalNamed n = some g ∧ (P.globals[g]?).map (·.type) = some t ∧ w.var? P n = some cs ∧ DataW.trod (fun _ => ()) P w 0 (fun _ => true) false fuel t cs.toList = some (d, p)
theorem reads_listed {P : Program} {w : World} {n : String} {d : DataW Unit} : ∀ (l : List (String × DataW Unit)) (ps : List MemPlace), DataW.LaidVars P w l ps → (n, d) ∈ l → ReadsAs P w n d := by
  intro l
  induction l with
  | nil => intro ps _ hm; cases hm
  | cons x l ih =>
    intro ps h hm
    obtain ⟨g, t, cs, fuel, p, q, h1, h2, h3, h4, h5, _⟩ := h
    cases hm with
    | head => exact ⟨g, t, cs, fuel, p, h1, h2, h3, h4⟩
    | tail _ hm => exact ih q h5 hm

theorem tab_reads {P : Program} {w : World} {n : String} {k : IntKind} {zs : List Int} {t e : TypeId} {m : Nat} (h : ReadsAs P w n (Lib.tabData k zs))
    (hty : ((P.globalNamed n).bind fun g => (P.globals[g]?).map (·.type)) = some t) (ht : P.underlying t = some (.array m e)) (he : P.underlying e = some (.int k)) (hce : P.cellsOf e = 1) (hct : P.cellsOf t = m) : Lib.TabIs P w n k zs := by
  obtain ⟨g', t', cs, fuel, p, h1, h2, h3, h4⟩ := h
  rw [h1, Option.bind_some, h2] at hty
  obtain rfl := Option.some.inj hty
  unfold Lib.TabIs
  rw [h3, ← Lib.cells_of_tab ht he hce hct h4]

theorem iface_reads {P : Program} {w : World} {n nm : String} {d : DataW Unit} {t : TypeId} {ms : _} (h : ReadsAs P w n (.iface nm d))
    (hty : ((P.globalNamed n).bind fun g => (P.globals[g]?).map (·.type)) = some t) (ht : P.underlying t = some (.interface ms)) : ∃ tp p, w.var? P n = some #[.iface tp p] := by
  obtain ⟨g', t', cs, fuel, p, h1, h2, h3, h4⟩ := h
  rw [h1, Option.bind_some, h2] at hty
  obtain rfl := Option.some.inj hty
  obtain ⟨cs⟩ := cs
  cases fuel with
  | zero => simp [DataW.trod] at h4
  | succ fuel =>
    simp only [DataW.trod, ht] at h4
    split at h4
    all_goals first
      | (exfalso; rename_i e _; cases e; done)
      | (exfalso; rename_i e; cases e; done)
      | (exfalso; contradiction)
      | (exfalso; cases h4; done)
      | exact ⟨_, _, h3⟩
      | (exfalso; simp_all; done)

set_option maxRecDepth 100000 in
/-- What the walks ask of the table. -/
theorem p10_of_laid {W : World} (h : laidMetH Tryz.prog laidA W) : P10 W := by
  rw [MakeChecks.laidMetH_plain _ _ _ (by kernel_rfl)] at h
  obtain ⟨ps, hv, _⟩ := h
  have r1 := reads_listed (n := "internal/strconv.uint64pow10") (d := Rows.laid_internal_strconv_uint64pow10) _ _ hv (by simp [laidA])
  exact tab_reads (k := .u64) (zs := Lib.pow10Tab) (t := 240) (e := 212) (m := 20) r1 (by kernel_rfl) (by kernel_rfl) (by kernel_rfl) (by kernel_rfl) (by kernel_rfl)

theorem cells_int : Tryz.prog.cellsOf 3 = 1 := by kernel_rfl
theorem cells_real : Tryz.prog.cellsOf 23 = 2 := by kernel_rfl
set_option maxRecDepth 100000 in
/-- A real by value: its two ints. -/
theorem open_real {H : Type} {enc : TypeId × Value → H} {w w2 : World} {r : _} {base b2 : Nat} {sp : Nat → Bool} {held : Bool} {v : Value} {d : DataW H} {p : List MemPlace} (hok : Value.okWide Tryz.prog w r base 23 v) (h : DataW.Trod enc Tryz.prog w2 b2 sp held 23 v d p) :
    ∃ a b : Int, v = .agg #[.int .i64 a, .int .i64 b] ∧ d = .agg [.lit (.int .i64 a), .lit (.int .i64 b)] ∧ p = [] ∧ (Lit.wf (.int .i64 a) = true) ∧ (Lit.wf (.int .i64 b) = true) := by
  obtain ⟨cs, rfl, hsz⟩ := okWide_struct Tryz.underlying23 hok
  rw [cells_real] at hsz
  obtain ⟨l⟩ := cs
  match l, hsz with
  | [c0, c1], _ =>
  obtain ⟨fuel, hf⟩ := h
  obtain ⟨y0, y1, m, hx, _, hy0, hy1⟩ := trod_struct2 Tryz.underlying23 hf
  obtain ⟨a, e0, rfl, wa⟩ := DataW.trod_int Tryz.underlying3 hy0
  obtain ⟨b, e1, rfl, wb⟩ := DataW.trod_int Tryz.underlying3 hy1
  simp [Value.cells, cells_int] at e0 e1
  subst e0 e1
  simp only [Prod.mk.injEq] at hx
  obtain ⟨rfl, rfl⟩ := hx
  exact ⟨a, b, rfl, rfl, rfl, wa, wb⟩
set_option maxRecDepth 100000 in
theorem shut_real {H : Type} {enc : TypeId × Value → H} {w : World} {base : Nat} {sp : Nat → Bool} {held : Bool} {a b : Int} (wa : Lit.wf (.int .i64 a) = true) (wb : Lit.wf (.int .i64 b) = true) :
    DataW.Trod enc Tryz.prog w base sp held 23 (.agg #[.int .i64 a, .int .i64 b]) (.agg [.lit (.int .i64 a), .lit (.int .i64 b)]) [] := ⟨2, by
  have f0 : DataW.trod enc Tryz.prog w base sp held 1 3 [.int .i64 a] = some (.lit (.int .i64 a), []) := by simp [DataW.trod, Tryz.underlying3, wa]
  have f1 : DataW.trod enc Tryz.prog w base sp held 1 3 [.int .i64 b] = some (.lit (.int .i64 b), []) := by simp [DataW.trod, Tryz.underlying3, wb]
  have := trod_struct2_mk (enc := enc) (w := w) (base := base) (spare := sp) (held := held) (n := 1) (cs := [.int .i64 a, .int .i64 b]) Tryz.underlying23 (by simp [cells_real]) (by simpa [cells_int] using f0) (by simpa [cells_int] using f1)
  simpa [Value.cells] using this⟩
end Go.Proofs.YtekbfommnmikbaaGreatDoor
