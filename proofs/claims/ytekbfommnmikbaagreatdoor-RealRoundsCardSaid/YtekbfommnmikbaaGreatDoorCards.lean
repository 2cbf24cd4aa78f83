/-
  DERIVED. GIVEN WITH THE SEED: THE CARDS: each row of YtekbfommnmikbaaGreatDoorRows.lean that lists a variable, with what it lists TIED to the program's text (the seventh form; the later family's looks); each row that meets fmt, with fmt's text TOLD by the authors' own Lean function (tested against real Go, not proved from fmt's source: count such statements apart). THE CARD IS WHAT COUNTS. Prove the row's statement (the work); the ties are given (YtekbfommnmikbaaGreatDoorTie.lean); close each card by the builder's one call (the guide's Derived/Test/ToyasCard.lean, 'card_holds'). Laid BY PROGRAM, IN A SANDBOX (cutbox-door.mjs). By AI agents, Wed Nov 11 2026. No macro, syntax, notation, axiom, sorry.
-/
import Derived.Test.YtekbfommnmikbaaGreatDoorRows
import GoSem.ClaimSeven
namespace Go.Proofs.YtekbfommnmikbaaGreatDoor
namespace Rows

/-- THE TIED CARD OF 'mjolnerlaw02.RealScales'. -/
def realScalesCard : Claim7 := { stood := { row := realScalesRow, standIns := [], harness := (true, "b748c9e9a03aa9569833d2e05c7515fd7c9cfa4e6ca2245827c6512865f4b7e9"), looks := true }, kinds := [], alts := [], laidByText := true, laidKinds := [.data, .data, .data, .data, .pinned], laidTests := true, laidLooks := .later }
def RealScalesCardSaid : Prop := Claim7.holds Tryz.pinned (.plain (OpenSpec.ofChange realScalesSpec)) realScalesCard

/-- THE TIED CARD OF 'mjolnerlaw02.RealStrings'. -/
def realStringsCard : Claim7 := { stood := { row := realStringsRow, standIns := [], harness := (true, "b748c9e9a03aa9569833d2e05c7515fd7c9cfa4e6ca2245827c6512865f4b7e9"), looks := true }, kinds := [], alts := [], laidByText := true, laidKinds := [.data, .data, .data, .data, .pinned], laidTests := true, laidLooks := .later }
def RealStringsCardSaid : Prop := Claim7.holds Tryz.pinned (.plain (OpenSpec.ofChange realStringsSpec)) realStringsCard

/-- THE TIED CARD OF 'mjolnerlaw02.RealShifts'. -/
def realShiftsCard : Claim7 := { stood := { row := realShiftsRow, standIns := [], harness := (true, "b748c9e9a03aa9569833d2e05c7515fd7c9cfa4e6ca2245827c6512865f4b7e9"), looks := true }, kinds := [], alts := [], laidByText := true, laidKinds := [.data, .data, .data, .data, .pinned], laidTests := true, laidLooks := .later }
def RealShiftsCardSaid : Prop := Claim7.holds Tryz.pinned (.plain (OpenSpec.ofChange realShiftsSpec)) realShiftsCard

/-- THE TIED CARD OF 'mjolnerlaw02.RealSums'. -/
def realSumsCard : Claim7 := { stood := { row := realSumsRow, standIns := [], harness := (true, "b748c9e9a03aa9569833d2e05c7515fd7c9cfa4e6ca2245827c6512865f4b7e9"), looks := true }, kinds := [], alts := [], laidByText := true, laidKinds := [.data, .data, .data, .data, .pinned], laidTests := true, laidLooks := .later }
def RealSumsCardSaid : Prop := Claim7.holds Tryz.pinned (.plain (OpenSpec.ofChange realSumsSpec)) realSumsCard

/-- THE TIED CARD OF 'mjolnerlaw02.RealChecks'. -/
def realChecksCard : Claim7 := { stood := { row := realChecksRow, standIns := [], harness := (true, "b748c9e9a03aa9569833d2e05c7515fd7c9cfa4e6ca2245827c6512865f4b7e9"), looks := true }, kinds := [], alts := [], laidByText := true, laidKinds := [.data, .data, .data, .data, .pinned], laidTests := true, laidLooks := .later }
def RealChecksCardSaid : Prop := Claim7.holds Tryz.pinned (.plain (OpenSpec.ofChange realChecksSpec)) realChecksCard

/-- THE TIED CARD OF 'mjolnerlaw02.RealProducts'. -/
def realProductsCard : Claim7 := { stood := { row := realProductsRow, standIns := [], harness := (true, "b748c9e9a03aa9569833d2e05c7515fd7c9cfa4e6ca2245827c6512865f4b7e9"), looks := true }, kinds := [], alts := [], laidByText := true, laidKinds := [.data, .data, .data, .data, .pinned], laidTests := true, laidLooks := .later }
def RealProductsCardSaid : Prop := Claim7.holds Tryz.pinned (.plain (OpenSpec.ofChange realProductsSpec)) realProductsCard

/-- THE TIED CARD OF 'mjolnerlaw02.RealMoves'. -/
def realMovesCard : Claim7 := { stood := { row := realMovesRow, standIns := [], harness := (true, "b748c9e9a03aa9569833d2e05c7515fd7c9cfa4e6ca2245827c6512865f4b7e9"), looks := true }, kinds := [], alts := [], laidByText := true, laidKinds := [.data, .data, .data, .data, .pinned], laidTests := true, laidLooks := .later }
def RealMovesCardSaid : Prop := Claim7.holds Tryz.pinned (.plain (OpenSpec.ofChange realMovesSpec)) realMovesCard

/-- THE TIED CARD OF 'mjolnerlaw02.RealAlgebra'. -/
def realAlgebraCard : Claim7 := { stood := { row := realAlgebraRow, standIns := [], harness := (true, "b748c9e9a03aa9569833d2e05c7515fd7c9cfa4e6ca2245827c6512865f4b7e9"), looks := true }, kinds := [], alts := [], laidByText := true, laidKinds := [.data, .data, .data, .data, .pinned], laidTests := true, laidLooks := .later }
def RealAlgebraCardSaid : Prop := Claim7.holds Tryz.pinned (.plain (OpenSpec.ofChange realAlgebraSpec)) realAlgebraCard

/-- THE TIED CARD OF 'mjolnerlaw02.RealPlaces'. -/
def realPlacesCard : Claim7 := { stood := { row := realPlacesRow, standIns := [], harness := (true, "b748c9e9a03aa9569833d2e05c7515fd7c9cfa4e6ca2245827c6512865f4b7e9"), looks := true }, kinds := [], alts := [], laidByText := true, laidKinds := [.data, .data, .data, .data, .pinned], laidTests := true, laidLooks := .later }
def RealPlacesCardSaid : Prop := Claim7.holds Tryz.pinned (.plain (OpenSpec.ofChange realPlacesSpec)) realPlacesCard

/-- THE TIED CARD OF 'mjolnerlaw02.RealBack'. -/
def realBackCard : Claim7 := { stood := { row := realBackRow, standIns := [], harness := (true, "b748c9e9a03aa9569833d2e05c7515fd7c9cfa4e6ca2245827c6512865f4b7e9"), looks := true }, kinds := [], alts := [], laidByText := true, laidKinds := [.data, .data, .data, .data, .pinned], laidTests := true, laidLooks := .later }
def RealBackCardSaid : Prop := Claim7.holds Tryz.pinned (.plain (OpenSpec.ofChange realBackSpec)) realBackCard

/-- THE TIED CARD OF 'mjolnerlaw02.RealWholes'. -/
def realWholesCard : Claim7 := { stood := { row := realWholesRow, standIns := [], harness := (true, "b748c9e9a03aa9569833d2e05c7515fd7c9cfa4e6ca2245827c6512865f4b7e9"), looks := true }, kinds := [], alts := [], laidByText := true, laidKinds := [.data, .data, .data, .data, .pinned], laidTests := true, laidLooks := .later }
def RealWholesCardSaid : Prop := Claim7.holds Tryz.pinned (.plain (OpenSpec.ofChange realWholesSpec)) realWholesCard

/-- THE TIED CARD OF 'mjolnerlaw02.RealExact'. -/
def realExactCard : Claim7 := { stood := { row := realExactRow, standIns := [], harness := (true, "b748c9e9a03aa9569833d2e05c7515fd7c9cfa4e6ca2245827c6512865f4b7e9"), looks := true }, kinds := [], alts := [], laidByText := true, laidKinds := [.data, .data, .data, .data, .pinned], laidTests := true, laidLooks := .later }
def RealExactCardSaid : Prop := Claim7.holds Tryz.pinned (.plain (OpenSpec.ofChange realExactSpec)) realExactCard

/-- THE TIED CARD OF 'mjolnerlaw02.RealOrder'. -/
def realOrderCard : Claim7 := { stood := { row := realOrderRow, standIns := [], harness := (true, "b748c9e9a03aa9569833d2e05c7515fd7c9cfa4e6ca2245827c6512865f4b7e9"), looks := true }, kinds := [], alts := [], laidByText := true, laidKinds := [.data, .data, .data, .data, .sentinel, .sentinel, .pinned], laidTests := true, laidLooks := .later }
def RealOrderCardSaid : Prop := Claim7.holds Tryz.pinned (.plain (OpenSpec.ofChange realOrderSpec)) realOrderCard

/-- THE TIED CARD OF 'mjolnerlaw02.RealRounds'. -/
def realRoundsCard : Claim7 := { stood := { row := realRoundsRow, standIns := [], harness := (true, "b748c9e9a03aa9569833d2e05c7515fd7c9cfa4e6ca2245827c6512865f4b7e9"), looks := true }, kinds := [], alts := [], laidByText := true, laidKinds := [.data, .data, .data, .data, .sentinel, .sentinel, .widerDeep, .pinned], laidTests := true, laidLooks := .later }
def RealRoundsCardSaid : Prop := Claim7.holds Tryz.pinned (.plain (OpenSpec.ofChange realRoundsSpec)) realRoundsCard

/-- THE TIED CARD OF 'mjolnerlaw02.RealNearest'. -/
def realNearestCard : Claim7 := { stood := { row := realNearestRow, standIns := [], harness := (true, "b748c9e9a03aa9569833d2e05c7515fd7c9cfa4e6ca2245827c6512865f4b7e9"), looks := true }, kinds := [], alts := [], laidByText := true, laidKinds := [.data, .data, .data, .data, .sentinel, .sentinel, .widerDeep, .pinned], laidTests := true, laidLooks := .later }
def RealNearestCardSaid : Prop := Claim7.holds Tryz.pinned (.plain (OpenSpec.ofChange realNearestSpec)) realNearestCard

/-- THE SECOND FORM's CARD OF 'mjolnerlaw02.RealScales'. -/
def realScalesUptoCard : Claim7 := { stood := { row := realScalesUptoRow, standIns := [], harness := (true, "b748c9e9a03aa9569833d2e05c7515fd7c9cfa4e6ca2245827c6512865f4b7e9"), looks := true }, kinds := [], alts := [], laidByText := true, laidKinds := [.data, .data, .data, .data, .pinned], laidTests := true, laidLooks := .later }
def RealScalesUptoCardSaid : Prop := Claim7.holds Tryz.pinned (.plain (OpenSpec.upto realScalesSpec)) realScalesUptoCard

/-- THE SECOND FORM's CARD OF 'mjolnerlaw02.RealStrings'. -/
def realStringsUptoCard : Claim7 := { stood := { row := realStringsUptoRow, standIns := [], harness := (true, "b748c9e9a03aa9569833d2e05c7515fd7c9cfa4e6ca2245827c6512865f4b7e9"), looks := true }, kinds := [], alts := [], laidByText := true, laidKinds := [.data, .data, .data, .data, .pinned], laidTests := true, laidLooks := .later }
def RealStringsUptoCardSaid : Prop := Claim7.holds Tryz.pinned (.plain (OpenSpec.upto realStringsSpec)) realStringsUptoCard

/-- THE SECOND FORM's CARD OF 'mjolnerlaw02.RealShifts'. -/
def realShiftsUptoCard : Claim7 := { stood := { row := realShiftsUptoRow, standIns := [], harness := (true, "b748c9e9a03aa9569833d2e05c7515fd7c9cfa4e6ca2245827c6512865f4b7e9"), looks := true }, kinds := [], alts := [], laidByText := true, laidKinds := [.data, .data, .data, .data, .pinned], laidTests := true, laidLooks := .later }
def RealShiftsUptoCardSaid : Prop := Claim7.holds Tryz.pinned (.plain (OpenSpec.upto realShiftsSpec)) realShiftsUptoCard

/-- THE SECOND FORM's CARD OF 'mjolnerlaw02.RealSums'. -/
def realSumsUptoCard : Claim7 := { stood := { row := realSumsUptoRow, standIns := [], harness := (true, "b748c9e9a03aa9569833d2e05c7515fd7c9cfa4e6ca2245827c6512865f4b7e9"), looks := true }, kinds := [], alts := [], laidByText := true, laidKinds := [.data, .data, .data, .data, .pinned], laidTests := true, laidLooks := .later }
def RealSumsUptoCardSaid : Prop := Claim7.holds Tryz.pinned (.plain (OpenSpec.upto realSumsSpec)) realSumsUptoCard

/-- THE SECOND FORM's CARD OF 'mjolnerlaw02.RealChecks'. -/
def realChecksUptoCard : Claim7 := { stood := { row := realChecksUptoRow, standIns := [], harness := (true, "b748c9e9a03aa9569833d2e05c7515fd7c9cfa4e6ca2245827c6512865f4b7e9"), looks := true }, kinds := [], alts := [], laidByText := true, laidKinds := [.data, .data, .data, .data, .pinned], laidTests := true, laidLooks := .later }
def RealChecksUptoCardSaid : Prop := Claim7.holds Tryz.pinned (.plain (OpenSpec.upto realChecksSpec)) realChecksUptoCard

/-- THE SECOND FORM's CARD OF 'mjolnerlaw02.RealProducts'. -/
def realProductsUptoCard : Claim7 := { stood := { row := realProductsUptoRow, standIns := [], harness := (true, "b748c9e9a03aa9569833d2e05c7515fd7c9cfa4e6ca2245827c6512865f4b7e9"), looks := true }, kinds := [], alts := [], laidByText := true, laidKinds := [.data, .data, .data, .data, .pinned], laidTests := true, laidLooks := .later }
def RealProductsUptoCardSaid : Prop := Claim7.holds Tryz.pinned (.plain (OpenSpec.upto realProductsSpec)) realProductsUptoCard

/-- THE SECOND FORM's CARD OF 'mjolnerlaw02.RealMoves'. -/
def realMovesUptoCard : Claim7 := { stood := { row := realMovesUptoRow, standIns := [], harness := (true, "b748c9e9a03aa9569833d2e05c7515fd7c9cfa4e6ca2245827c6512865f4b7e9"), looks := true }, kinds := [], alts := [], laidByText := true, laidKinds := [.data, .data, .data, .data, .pinned], laidTests := true, laidLooks := .later }
def RealMovesUptoCardSaid : Prop := Claim7.holds Tryz.pinned (.plain (OpenSpec.upto realMovesSpec)) realMovesUptoCard

/-- THE SECOND FORM's CARD OF 'mjolnerlaw02.RealAlgebra'. -/
def realAlgebraUptoCard : Claim7 := { stood := { row := realAlgebraUptoRow, standIns := [], harness := (true, "b748c9e9a03aa9569833d2e05c7515fd7c9cfa4e6ca2245827c6512865f4b7e9"), looks := true }, kinds := [], alts := [], laidByText := true, laidKinds := [.data, .data, .data, .data, .pinned], laidTests := true, laidLooks := .later }
def RealAlgebraUptoCardSaid : Prop := Claim7.holds Tryz.pinned (.plain (OpenSpec.upto realAlgebraSpec)) realAlgebraUptoCard

/-- THE SECOND FORM's CARD OF 'mjolnerlaw02.RealPlaces'. -/
def realPlacesUptoCard : Claim7 := { stood := { row := realPlacesUptoRow, standIns := [], harness := (true, "b748c9e9a03aa9569833d2e05c7515fd7c9cfa4e6ca2245827c6512865f4b7e9"), looks := true }, kinds := [], alts := [], laidByText := true, laidKinds := [.data, .data, .data, .data, .pinned], laidTests := true, laidLooks := .later }
def RealPlacesUptoCardSaid : Prop := Claim7.holds Tryz.pinned (.plain (OpenSpec.upto realPlacesSpec)) realPlacesUptoCard

/-- THE SECOND FORM's CARD OF 'mjolnerlaw02.RealBack'. -/
def realBackUptoCard : Claim7 := { stood := { row := realBackUptoRow, standIns := [], harness := (true, "b748c9e9a03aa9569833d2e05c7515fd7c9cfa4e6ca2245827c6512865f4b7e9"), looks := true }, kinds := [], alts := [], laidByText := true, laidKinds := [.data, .data, .data, .data, .pinned], laidTests := true, laidLooks := .later }
def RealBackUptoCardSaid : Prop := Claim7.holds Tryz.pinned (.plain (OpenSpec.upto realBackSpec)) realBackUptoCard

/-- THE SECOND FORM's CARD OF 'mjolnerlaw02.RealWholes'. -/
def realWholesUptoCard : Claim7 := { stood := { row := realWholesUptoRow, standIns := [], harness := (true, "b748c9e9a03aa9569833d2e05c7515fd7c9cfa4e6ca2245827c6512865f4b7e9"), looks := true }, kinds := [], alts := [], laidByText := true, laidKinds := [.data, .data, .data, .data, .pinned], laidTests := true, laidLooks := .later }
def RealWholesUptoCardSaid : Prop := Claim7.holds Tryz.pinned (.plain (OpenSpec.upto realWholesSpec)) realWholesUptoCard

/-- THE SECOND FORM's CARD OF 'mjolnerlaw02.RealExact'. -/
def realExactUptoCard : Claim7 := { stood := { row := realExactUptoRow, standIns := [], harness := (true, "b748c9e9a03aa9569833d2e05c7515fd7c9cfa4e6ca2245827c6512865f4b7e9"), looks := true }, kinds := [], alts := [], laidByText := true, laidKinds := [.data, .data, .data, .data, .pinned], laidTests := true, laidLooks := .later }
def RealExactUptoCardSaid : Prop := Claim7.holds Tryz.pinned (.plain (OpenSpec.upto realExactSpec)) realExactUptoCard

/-- THE SECOND FORM's CARD OF 'mjolnerlaw02.RealOrder'. -/
def realOrderUptoCard : Claim7 := { stood := { row := realOrderUptoRow, standIns := [], harness := (true, "b748c9e9a03aa9569833d2e05c7515fd7c9cfa4e6ca2245827c6512865f4b7e9"), looks := true }, kinds := [], alts := [], laidByText := true, laidKinds := [.data, .data, .data, .data, .sentinel, .sentinel, .pinned], laidTests := true, laidLooks := .later }
def RealOrderUptoCardSaid : Prop := Claim7.holds Tryz.pinned (.plain (OpenSpec.upto realOrderSpec)) realOrderUptoCard

/-- THE SECOND FORM's CARD OF 'mjolnerlaw02.RealRounds'. -/
def realRoundsUptoCard : Claim7 := { stood := { row := realRoundsUptoRow, standIns := [], harness := (true, "b748c9e9a03aa9569833d2e05c7515fd7c9cfa4e6ca2245827c6512865f4b7e9"), looks := true }, kinds := [], alts := [], laidByText := true, laidKinds := [.data, .data, .data, .data, .sentinel, .sentinel, .widerDeep, .pinned], laidTests := true, laidLooks := .later }
def RealRoundsUptoCardSaid : Prop := Claim7.holds Tryz.pinned (.plain (OpenSpec.upto realRoundsSpec)) realRoundsUptoCard

/-- THE SECOND FORM's CARD OF 'mjolnerlaw02.RealNearest'. -/
def realNearestUptoCard : Claim7 := { stood := { row := realNearestUptoRow, standIns := [], harness := (true, "b748c9e9a03aa9569833d2e05c7515fd7c9cfa4e6ca2245827c6512865f4b7e9"), looks := true }, kinds := [], alts := [], laidByText := true, laidKinds := [.data, .data, .data, .data, .sentinel, .sentinel, .widerDeep, .pinned], laidTests := true, laidLooks := .later }
def RealNearestUptoCardSaid : Prop := Claim7.holds Tryz.pinned (.plain (OpenSpec.upto realNearestSpec)) realNearestUptoCard
end Rows
end Go.Proofs.YtekbfommnmikbaaGreatDoor
