/- What the listed variables give the walks; the heap that start-up code leaves meets the condition. -/
import Derived.Test.YtbjgpbdkofadiaaGreatDoorRows
import Derived.Test.YtbjgpbdkofadiaaGreatDoorM2
import Derived.ProofKit
import Derived.LaidMore
import Derived.OpenShut
import Derived.Stop.Joined
namespace Go.Proofs.YtbjgpbdkofadiaaGreatDoor
set_option linter.unusedVariables false
set_option linter.unusedSimpArgs false
open Go.ChangeShapes Go.WideShapes Go.ChangeAt Go.WideMaps Go.WideElems Go.RowKit

theorem ownKnob_none : ownKnob Tryz.prog.godebug = none := by kernel_rfl

/-- The listed variables. -/
def laidL : List (String × DataW Unit) := [("math/bits.deBruijn32tab", Rows.laid_math_bits_deBruijn32tab), ("math/bits.deBruijn64tab", Rows.laid_math_bits_deBruijn64tab), ("internal/strconv.uint64pow10", Rows.laid_internal_strconv_uint64pow10), ("strconv.ErrRange", Rows.laid_strconv_ErrRange), ("strconv.ErrSyntax", Rows.laid_strconv_ErrSyntax), ("mjolner/number.digit", Rows.laid_mjolner_number_digit)]

/-- The heap that start-up code leaves meets the condition. -/
theorem door_met (os : Os) (args : Array Value) : laidMetH Tryz.prog laidL ((World.doorLaid Tryz.prog 67 os).forCall (fun _ _ => 0) ⟨#[], args, []⟩).memory :=
  laidMetH_of_parts3 (fuel := 8) (laidMet_of_run' 8 (by kernel_rfl) (by kernel_rfl)) (by kernel_rfl) (by kernel_rfl)

/-- One listed variable reads as it is listed. -/
def ReadsAs (P : Program) (w : World) (n : String) (d : DataW Unit) : Prop :=
  ∃ g t cs fuel p, P.globalNamed n = some g ∧ (P.globals[g]?).map (·.type) = some t ∧ w.var? P n = some cs ∧ DataW.trod (fun _ => ()) P w 0 (fun _ => true) false fuel t cs.toList = some (d, p)
theorem reads_listed {P : Program} {w : World} {n : String} {d : DataW Unit} : ∀ (l : List (String × DataW Unit)) (ps : List MemPlace), DataW.LaidVars P w l ps → (n, d) ∈ l → ReadsAs P w n d := by
  intro l
  induction l with
  | nil => intro ps _ hm; cases hm
  | cons x l ih =>
    intro ps h hm
    obtain ⟨g, t, cs, fuel, p, q, h1, h2, h3, h4, h5, _⟩ := h
    cases hm with
    | head => exact ⟨g, t, cs, fuel, p, h1, h2, h3, h4⟩
    | tail _ hm => exact ih q h5 hm

theorem tab_reads {P : Program} {w : World} {n : String} {k : IntKind} {zs : List Int} {t e : TypeId} {m : Nat} (h : ReadsAs P w n (Lib.tabData k zs))
    (hty : ((P.globalNamed n).bind fun g => (P.globals[g]?).map (·.type)) = some t) (ht : P.underlying t = some (.array m e)) (he : P.underlying e = some (.int k)) (hce : P.cellsOf e = 1) (hct : P.cellsOf t = m) : Lib.TabIs P w n k zs := by
  obtain ⟨g', t', cs, fuel, p, h1, h2, h3, h4⟩ := h
  rw [h1, Option.bind_some, h2] at hty
  obtain rfl := Option.some.inj hty
  unfold Lib.TabIs
  rw [h3, ← Lib.cells_of_tab ht he hce hct h4]

theorem iface_reads {P : Program} {w : World} {n nm : String} {d : DataW Unit} {t : TypeId} {ms : _} (h : ReadsAs P w n (.iface nm d))
    (hty : ((P.globalNamed n).bind fun g => (P.globals[g]?).map (·.type)) = some t) (ht : P.underlying t = some (.interface ms)) : ∃ tp p, w.var? P n = some #[.iface tp p] := by
  obtain ⟨g', t', cs, fuel, p, h1, h2, h3, h4⟩ := h
  rw [h1, Option.bind_some, h2] at hty
  obtain rfl := Option.some.inj hty
  obtain ⟨cs⟩ := cs
  cases fuel with
  | zero => simp [DataW.trod] at h4
  | succ fuel =>
    simp only [DataW.trod, ht] at h4
    split at h4
    all_goals first
      | (exfalso; rename_i e _; cases e; done)
      | (exfalso; rename_i e; cases e; done)
      | (exfalso; contradiction)
      | (exfalso; cases h4; done)
      | exact ⟨_, _, h3⟩
      | (exfalso; simp_all; done)

/-- What the walks ask of the tables. -/
theorem tabs_of_laid {W : World} (h : laidMetH Tryz.prog laidL W) : Tabs W := by
  rw [MakeChecks.laidMetH_plain _ _ _ (by kernel_rfl)] at h
  obtain ⟨ps, hv, _⟩ := h
  have r1 := reads_listed (n := "internal/strconv.uint64pow10") (d := Rows.laid_internal_strconv_uint64pow10) _ _ hv (by simp [laidL])
  have r2 := reads_listed (n := "mjolner/number.digit") (d := Rows.laid_mjolner_number_digit) _ _ hv (by simp [laidL])
  have r3 := reads_listed (n := "strconv.ErrRange") (d := Rows.laid_strconv_ErrRange) _ _ hv (by simp [laidL])
  have r4 := reads_listed (n := "strconv.ErrSyntax") (d := Rows.laid_strconv_ErrSyntax) _ _ hv (by simp [laidL])
  refine ⟨?_, ?_, ?_, ?_⟩
  · exact tab_reads (k := .u64) (zs := Lib.pow10Tab) (t := 177) (e := 150) (m := 20) r1 (by kernel_rfl) (by kernel_rfl) (by kernel_rfl) (by kernel_rfl) (by kernel_rfl)
  · exact tab_reads (k := .u8) (t := 102) (e := 5) (m := 36) r2 (by kernel_rfl) (by kernel_rfl) (by kernel_rfl) (by kernel_rfl) (by kernel_rfl)
  · exact iface_reads (t := 117) r3 (by kernel_rfl) Tryz.underlying117
  · exact iface_reads (t := 117) r4 (by kernel_rfl) Tryz.underlying117

end Go.Proofs.YtbjgpbdkofadiaaGreatDoor
