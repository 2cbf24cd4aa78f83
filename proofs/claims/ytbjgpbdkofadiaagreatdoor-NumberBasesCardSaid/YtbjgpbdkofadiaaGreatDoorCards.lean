/-
  DERIVED. GIVEN WITH THE SEED: THE CARDS: each row of YtbjgpbdkofadiaaGreatDoorRows.lean that lists a variable, with what it lists TIED to the program's text (the seventh form; the later family's looks); each row that meets fmt, with fmt's text TOLD by the authors' own Lean function (tested against real Go, not proved from fmt's source: count such statements apart). THE CARD IS WHAT COUNTS. Prove the row's statement (the work); the ties are given (YtbjgpbdkofadiaaGreatDoorTie.lean); close each card by the builder's one call (the guide's Derived/Test/ToyasCard.lean, 'card_holds'). Laid BY PROGRAM, IN A SANDBOX (cutbox-door.mjs). By AI agents, Wed Nov 11 2026. No macro, syntax, notation, axiom, sorry.
-/
import Derived.Test.YtbjgpbdkofadiaaGreatDoorRows
import GoSem.ClaimSeven
namespace Go.Proofs.YtbjgpbdkofadiaaGreatDoor
namespace Rows

/-- THE TIED CARD OF 'mjolnerlaw01.NumberProducts'. -/
def numberProductsCard : Claim7 := { stood := { row := numberProductsRow, standIns := [], harness := (true, "df667eed246540e532d7f0ed97bb2cc5ae1ff922616d11d3adf74a4b27721ff2"), looks := true }, kinds := [], alts := [], laidByText := true, laidKinds := [.data, .data, .data, .sentinel, .sentinel, .widerDeep], laidTests := true, laidLooks := .later }
def NumberProductsCardSaid : Prop := Claim7.holds Tryz.pinned (.plain (OpenSpec.ofChange numberProductsSpec)) numberProductsCard

/-- THE TIED CARD OF 'mjolnerlaw01.NumberQuotients'. -/
def numberQuotientsCard : Claim7 := { stood := { row := numberQuotientsRow, standIns := [], harness := (true, "df667eed246540e532d7f0ed97bb2cc5ae1ff922616d11d3adf74a4b27721ff2"), looks := true }, kinds := [], alts := [], laidByText := true, laidKinds := [.data, .data, .data, .sentinel, .sentinel, .widerDeep], laidTests := true, laidLooks := .later }
def NumberQuotientsCardSaid : Prop := Claim7.holds Tryz.pinned (.plain (OpenSpec.ofChange numberQuotientsSpec)) numberQuotientsCard

/-- THE TIED CARD OF 'mjolnerlaw01.NumberDivisors'. -/
def numberDivisorsCard : Claim7 := { stood := { row := numberDivisorsRow, standIns := [], harness := (true, "df667eed246540e532d7f0ed97bb2cc5ae1ff922616d11d3adf74a4b27721ff2"), looks := true }, kinds := [], alts := [], laidByText := true, laidKinds := [.data, .data, .data, .sentinel, .sentinel, .widerDeep], laidTests := true, laidLooks := .later }
def NumberDivisorsCardSaid : Prop := Claim7.holds Tryz.pinned (.plain (OpenSpec.ofChange numberDivisorsSpec)) numberDivisorsCard

/-- THE TIED CARD OF 'mjolnerlaw01.NumberBases'. -/
def numberBasesCard : Claim7 := { stood := { row := numberBasesRow, standIns := [], harness := (true, "df667eed246540e532d7f0ed97bb2cc5ae1ff922616d11d3adf74a4b27721ff2"), looks := true }, kinds := [], alts := [], laidByText := true, laidKinds := [.data, .data, .data, .sentinel, .sentinel, .widerDeep], laidTests := true, laidLooks := .later }
def NumberBasesCardSaid : Prop := Claim7.holds Tryz.pinned (.plain (OpenSpec.ofChange numberBasesSpec)) numberBasesCard

/-- THE TIED CARD OF 'mjolnerlaw01.NumberPowers'. -/
def numberPowersCard : Claim7 := { stood := { row := numberPowersRow, standIns := [], harness := (true, "df667eed246540e532d7f0ed97bb2cc5ae1ff922616d11d3adf74a4b27721ff2"), looks := true }, kinds := [], alts := [], laidByText := true, laidKinds := [.data, .data, .data, .sentinel, .sentinel, .widerDeep], laidTests := true, laidLooks := .later }
def NumberPowersCardSaid : Prop := Claim7.holds Tryz.pinned (.plain (OpenSpec.ofChange numberPowersSpec)) numberPowersCard

/-- THE TIED CARD OF 'mjolnerlaw01.NumberBack'. -/
def numberBackCard : Claim7 := { stood := { row := numberBackRow, standIns := [], harness := (true, "df667eed246540e532d7f0ed97bb2cc5ae1ff922616d11d3adf74a4b27721ff2"), looks := true }, kinds := [], alts := [], laidByText := true, laidKinds := [.data, .data, .data, .sentinel, .sentinel, .widerDeep], laidTests := true, laidLooks := .later }
def NumberBackCardSaid : Prop := Claim7.holds Tryz.pinned (.plain (OpenSpec.ofChange numberBackSpec)) numberBackCard

/-- THE TIED CARD OF 'mjolnerlaw01.NumberRing'. -/
def numberRingCard : Claim7 := { stood := { row := numberRingRow, standIns := [], harness := (true, "df667eed246540e532d7f0ed97bb2cc5ae1ff922616d11d3adf74a4b27721ff2"), looks := true }, kinds := [], alts := [], laidByText := true, laidKinds := [.data, .data, .data, .sentinel, .sentinel, .widerDeep], laidTests := true, laidLooks := .later }
def NumberRingCardSaid : Prop := Claim7.holds Tryz.pinned (.plain (OpenSpec.ofChange numberRingSpec)) numberRingCard

/-- THE TIED CARD OF 'mjolnerlaw01.NumberSums'. -/
def numberSumsCard : Claim7 := { stood := { row := numberSumsRow, standIns := [], harness := (true, "df667eed246540e532d7f0ed97bb2cc5ae1ff922616d11d3adf74a4b27721ff2"), looks := true }, kinds := [], alts := [], laidByText := true, laidKinds := [.data, .data, .data, .sentinel, .sentinel, .widerDeep], laidTests := true, laidLooks := .later }
def NumberSumsCardSaid : Prop := Claim7.holds Tryz.pinned (.plain (OpenSpec.ofChange numberSumsSpec)) numberSumsCard

/-- THE TIED CARD OF 'mjolnerlaw01.NumberOrder'. -/
def numberOrderCard : Claim7 := { stood := { row := numberOrderRow, standIns := [], harness := (true, "df667eed246540e532d7f0ed97bb2cc5ae1ff922616d11d3adf74a4b27721ff2"), looks := true }, kinds := [], alts := [], laidByText := true, laidKinds := [.data, .data, .data, .sentinel, .sentinel, .widerDeep], laidTests := true, laidLooks := .later }
def NumberOrderCardSaid : Prop := Claim7.holds Tryz.pinned (.plain (OpenSpec.ofChange numberOrderSpec)) numberOrderCard

/-- THE TIED CARD OF 'mjolnerlaw01.NumberGcd'. -/
def numberGcdCard : Claim7 := { stood := { row := numberGcdRow, standIns := [], harness := (true, "df667eed246540e532d7f0ed97bb2cc5ae1ff922616d11d3adf74a4b27721ff2"), looks := true }, kinds := [], alts := [], laidByText := true, laidKinds := [.data, .data, .data, .sentinel, .sentinel, .widerDeep], laidTests := true, laidLooks := .later }
def NumberGcdCardSaid : Prop := Claim7.holds Tryz.pinned (.plain (OpenSpec.ofChange numberGcdSpec)) numberGcdCard

/-- THE TIED CARD OF 'mjolnerlaw01.NumberRoots'. -/
def numberRootsCard : Claim7 := { stood := { row := numberRootsRow, standIns := [], harness := (true, "df667eed246540e532d7f0ed97bb2cc5ae1ff922616d11d3adf74a4b27721ff2"), looks := true }, kinds := [], alts := [], laidByText := true, laidKinds := [.data, .data, .data, .sentinel, .sentinel, .widerDeep], laidTests := true, laidLooks := .later }
def NumberRootsCardSaid : Prop := Claim7.holds Tryz.pinned (.plain (OpenSpec.ofChange numberRootsSpec)) numberRootsCard

/-- THE TIED CARD OF 'mjolnerlaw01.NumberDivision'. -/
def numberDivisionCard : Claim7 := { stood := { row := numberDivisionRow, standIns := [], harness := (true, "df667eed246540e532d7f0ed97bb2cc5ae1ff922616d11d3adf74a4b27721ff2"), looks := true }, kinds := [], alts := [], laidByText := true, laidKinds := [.data, .data, .data, .sentinel, .sentinel, .widerDeep], laidTests := true, laidLooks := .later }
def NumberDivisionCardSaid : Prop := Claim7.holds Tryz.pinned (.plain (OpenSpec.ofChange numberDivisionSpec)) numberDivisionCard

/-- THE TIED CARD OF 'mjolnerlaw01.NumberMachine'. -/
def numberMachineCard : Claim7 := { stood := { row := numberMachineRow, standIns := [], harness := (true, "df667eed246540e532d7f0ed97bb2cc5ae1ff922616d11d3adf74a4b27721ff2"), looks := true }, kinds := [], alts := [], laidByText := true, laidKinds := [.data, .data, .data, .sentinel, .sentinel, .widerDeep], laidTests := true, laidLooks := .later }
def NumberMachineCardSaid : Prop := Claim7.holds Tryz.pinned (.plain (OpenSpec.ofChange numberMachineSpec)) numberMachineCard

/-- THE TIED CARD OF 'mjolnerlaw01.NumberTexts'. -/
def numberTextsCard : Claim7 := { stood := { row := numberTextsRow, standIns := [], harness := (true, "df667eed246540e532d7f0ed97bb2cc5ae1ff922616d11d3adf74a4b27721ff2"), looks := true }, kinds := [], alts := [], laidByText := true, laidKinds := [.data, .data, .data, .sentinel, .sentinel, .widerDeep], laidTests := true, laidLooks := .later }
def NumberTextsCardSaid : Prop := Claim7.holds Tryz.pinned (.plain (OpenSpec.ofChange numberTextsSpec)) numberTextsCard

/-- THE SECOND FORM's CARD OF 'mjolnerlaw01.NumberProducts'. -/
def numberProductsUptoCard : Claim7 := { stood := { row := numberProductsUptoRow, standIns := [], harness := (true, "df667eed246540e532d7f0ed97bb2cc5ae1ff922616d11d3adf74a4b27721ff2"), looks := true }, kinds := [], alts := [], laidByText := true, laidKinds := [.data, .data, .data, .sentinel, .sentinel, .widerDeep], laidTests := true, laidLooks := .later }
def NumberProductsUptoCardSaid : Prop := Claim7.holds Tryz.pinned (.plain (OpenSpec.upto numberProductsSpec)) numberProductsUptoCard

/-- THE SECOND FORM's CARD OF 'mjolnerlaw01.NumberQuotients'. -/
def numberQuotientsUptoCard : Claim7 := { stood := { row := numberQuotientsUptoRow, standIns := [], harness := (true, "df667eed246540e532d7f0ed97bb2cc5ae1ff922616d11d3adf74a4b27721ff2"), looks := true }, kinds := [], alts := [], laidByText := true, laidKinds := [.data, .data, .data, .sentinel, .sentinel, .widerDeep], laidTests := true, laidLooks := .later }
def NumberQuotientsUptoCardSaid : Prop := Claim7.holds Tryz.pinned (.plain (OpenSpec.upto numberQuotientsSpec)) numberQuotientsUptoCard

/-- THE SECOND FORM's CARD OF 'mjolnerlaw01.NumberDivisors'. -/
def numberDivisorsUptoCard : Claim7 := { stood := { row := numberDivisorsUptoRow, standIns := [], harness := (true, "df667eed246540e532d7f0ed97bb2cc5ae1ff922616d11d3adf74a4b27721ff2"), looks := true }, kinds := [], alts := [], laidByText := true, laidKinds := [.data, .data, .data, .sentinel, .sentinel, .widerDeep], laidTests := true, laidLooks := .later }
def NumberDivisorsUptoCardSaid : Prop := Claim7.holds Tryz.pinned (.plain (OpenSpec.upto numberDivisorsSpec)) numberDivisorsUptoCard

/-- THE SECOND FORM's CARD OF 'mjolnerlaw01.NumberBases'. -/
def numberBasesUptoCard : Claim7 := { stood := { row := numberBasesUptoRow, standIns := [], harness := (true, "df667eed246540e532d7f0ed97bb2cc5ae1ff922616d11d3adf74a4b27721ff2"), looks := true }, kinds := [], alts := [], laidByText := true, laidKinds := [.data, .data, .data, .sentinel, .sentinel, .widerDeep], laidTests := true, laidLooks := .later }
def NumberBasesUptoCardSaid : Prop := Claim7.holds Tryz.pinned (.plain (OpenSpec.upto numberBasesSpec)) numberBasesUptoCard

/-- THE SECOND FORM's CARD OF 'mjolnerlaw01.NumberPowers'. -/
def numberPowersUptoCard : Claim7 := { stood := { row := numberPowersUptoRow, standIns := [], harness := (true, "df667eed246540e532d7f0ed97bb2cc5ae1ff922616d11d3adf74a4b27721ff2"), looks := true }, kinds := [], alts := [], laidByText := true, laidKinds := [.data, .data, .data, .sentinel, .sentinel, .widerDeep], laidTests := true, laidLooks := .later }
def NumberPowersUptoCardSaid : Prop := Claim7.holds Tryz.pinned (.plain (OpenSpec.upto numberPowersSpec)) numberPowersUptoCard

/-- THE SECOND FORM's CARD OF 'mjolnerlaw01.NumberBack'. -/
def numberBackUptoCard : Claim7 := { stood := { row := numberBackUptoRow, standIns := [], harness := (true, "df667eed246540e532d7f0ed97bb2cc5ae1ff922616d11d3adf74a4b27721ff2"), looks := true }, kinds := [], alts := [], laidByText := true, laidKinds := [.data, .data, .data, .sentinel, .sentinel, .widerDeep], laidTests := true, laidLooks := .later }
def NumberBackUptoCardSaid : Prop := Claim7.holds Tryz.pinned (.plain (OpenSpec.upto numberBackSpec)) numberBackUptoCard

/-- THE SECOND FORM's CARD OF 'mjolnerlaw01.NumberRing'. -/
def numberRingUptoCard : Claim7 := { stood := { row := numberRingUptoRow, standIns := [], harness := (true, "df667eed246540e532d7f0ed97bb2cc5ae1ff922616d11d3adf74a4b27721ff2"), looks := true }, kinds := [], alts := [], laidByText := true, laidKinds := [.data, .data, .data, .sentinel, .sentinel, .widerDeep], laidTests := true, laidLooks := .later }
def NumberRingUptoCardSaid : Prop := Claim7.holds Tryz.pinned (.plain (OpenSpec.upto numberRingSpec)) numberRingUptoCard

/-- THE SECOND FORM's CARD OF 'mjolnerlaw01.NumberSums'. -/
def numberSumsUptoCard : Claim7 := { stood := { row := numberSumsUptoRow, standIns := [], harness := (true, "df667eed246540e532d7f0ed97bb2cc5ae1ff922616d11d3adf74a4b27721ff2"), looks := true }, kinds := [], alts := [], laidByText := true, laidKinds := [.data, .data, .data, .sentinel, .sentinel, .widerDeep], laidTests := true, laidLooks := .later }
def NumberSumsUptoCardSaid : Prop := Claim7.holds Tryz.pinned (.plain (OpenSpec.upto numberSumsSpec)) numberSumsUptoCard

/-- THE SECOND FORM's CARD OF 'mjolnerlaw01.NumberOrder'. -/
def numberOrderUptoCard : Claim7 := { stood := { row := numberOrderUptoRow, standIns := [], harness := (true, "df667eed246540e532d7f0ed97bb2cc5ae1ff922616d11d3adf74a4b27721ff2"), looks := true }, kinds := [], alts := [], laidByText := true, laidKinds := [.data, .data, .data, .sentinel, .sentinel, .widerDeep], laidTests := true, laidLooks := .later }
def NumberOrderUptoCardSaid : Prop := Claim7.holds Tryz.pinned (.plain (OpenSpec.upto numberOrderSpec)) numberOrderUptoCard

/-- THE SECOND FORM's CARD OF 'mjolnerlaw01.NumberGcd'. -/
def numberGcdUptoCard : Claim7 := { stood := { row := numberGcdUptoRow, standIns := [], harness := (true, "df667eed246540e532d7f0ed97bb2cc5ae1ff922616d11d3adf74a4b27721ff2"), looks := true }, kinds := [], alts := [], laidByText := true, laidKinds := [.data, .data, .data, .sentinel, .sentinel, .widerDeep], laidTests := true, laidLooks := .later }
def NumberGcdUptoCardSaid : Prop := Claim7.holds Tryz.pinned (.plain (OpenSpec.upto numberGcdSpec)) numberGcdUptoCard

/-- THE SECOND FORM's CARD OF 'mjolnerlaw01.NumberRoots'. -/
def numberRootsUptoCard : Claim7 := { stood := { row := numberRootsUptoRow, standIns := [], harness := (true, "df667eed246540e532d7f0ed97bb2cc5ae1ff922616d11d3adf74a4b27721ff2"), looks := true }, kinds := [], alts := [], laidByText := true, laidKinds := [.data, .data, .data, .sentinel, .sentinel, .widerDeep], laidTests := true, laidLooks := .later }
def NumberRootsUptoCardSaid : Prop := Claim7.holds Tryz.pinned (.plain (OpenSpec.upto numberRootsSpec)) numberRootsUptoCard

/-- THE SECOND FORM's CARD OF 'mjolnerlaw01.NumberDivision'. -/
def numberDivisionUptoCard : Claim7 := { stood := { row := numberDivisionUptoRow, standIns := [], harness := (true, "df667eed246540e532d7f0ed97bb2cc5ae1ff922616d11d3adf74a4b27721ff2"), looks := true }, kinds := [], alts := [], laidByText := true, laidKinds := [.data, .data, .data, .sentinel, .sentinel, .widerDeep], laidTests := true, laidLooks := .later }
def NumberDivisionUptoCardSaid : Prop := Claim7.holds Tryz.pinned (.plain (OpenSpec.upto numberDivisionSpec)) numberDivisionUptoCard

/-- THE SECOND FORM's CARD OF 'mjolnerlaw01.NumberMachine'. -/
def numberMachineUptoCard : Claim7 := { stood := { row := numberMachineUptoRow, standIns := [], harness := (true, "df667eed246540e532d7f0ed97bb2cc5ae1ff922616d11d3adf74a4b27721ff2"), looks := true }, kinds := [], alts := [], laidByText := true, laidKinds := [.data, .data, .data, .sentinel, .sentinel, .widerDeep], laidTests := true, laidLooks := .later }
def NumberMachineUptoCardSaid : Prop := Claim7.holds Tryz.pinned (.plain (OpenSpec.upto numberMachineSpec)) numberMachineUptoCard

/-- THE SECOND FORM's CARD OF 'mjolnerlaw01.NumberTexts'. -/
def numberTextsUptoCard : Claim7 := { stood := { row := numberTextsUptoRow, standIns := [], harness := (true, "df667eed246540e532d7f0ed97bb2cc5ae1ff922616d11d3adf74a4b27721ff2"), looks := true }, kinds := [], alts := [], laidByText := true, laidKinds := [.data, .data, .data, .sentinel, .sentinel, .widerDeep], laidTests := true, laidLooks := .later }
def NumberTextsUptoCardSaid : Prop := Claim7.holds Tryz.pinned (.plain (OpenSpec.upto numberTextsSpec)) numberTextsUptoCard
end Rows
end Go.Proofs.YtbjgpbdkofadiaaGreatDoor
