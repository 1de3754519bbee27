/-
  DERIVED. GIVEN WITH THE SEED: THE CARDS: each row of YtacpolhilhindaaDoorRows.lean that lists a variable, with what it lists TIED to the program's text (the seventh form; the later family's looks); each row that meets fmt, with fmt's text TOLD by the authors' own Lean function (tested against real Go, not proved from fmt's source: count such statements apart). THE CARD IS WHAT COUNTS. Prove the row's statement (the work); the ties are given (YtacpolhilhindaaDoorTie.lean); close each card by the builder's one call (the guide's Derived/Test/ToyasCard.lean, 'card_holds'). Laid BY PROGRAM, IN A SANDBOX (cutbox-door.mjs). By AI agents, Wed Nov 11 2026. No macro, syntax, notation, axiom, sorry.
-/
import Derived.Test.YtacpolhilhindaaDoorRows
import GoSem.ClaimSeven
namespace Go.Proofs.YtacpolhilhindaaDoor
namespace Rows

/-- THE TIED CARD OF 'marlinelaw01.WholeParts'. -/
def wholePartsCard : Claim7 := { stood := { row := wholePartsRow, standIns := [], harness := (true, "561cbfb288ef364f450d5b70943f40155700aec47fa275c4b9360a34a45b34fe"), looks := true }, kinds := [], alts := [], laidByText := true, laidKinds := [.data, .data, .data], laidTests := true, laidLooks := .later }
def WholePartsCardSaid : Prop := Claim7.holds Tryd.pinned (.plain (OpenSpec.ofChange wholePartsSpec)) wholePartsCard

/-- THE TIED CARD OF 'marlinelaw01.WholeDoes'. -/
def wholeDoesCard : Claim7 := { stood := { row := wholeDoesRow, standIns := [], harness := (true, "561cbfb288ef364f450d5b70943f40155700aec47fa275c4b9360a34a45b34fe"), looks := true }, kinds := [], alts := [], laidByText := true, laidKinds := [.data, .data, .data], laidTests := true, laidLooks := .later }
def WholeDoesCardSaid : Prop := Claim7.holds Tryd.pinned (.plain (OpenSpec.ofChange wholeDoesSpec)) wholeDoesCard

/-- THE TIED CARD OF 'marlinelaw01.WholeTexts'. -/
def wholeTextsCard : Claim7 := { stood := { row := wholeTextsRow, standIns := [], harness := (true, "561cbfb288ef364f450d5b70943f40155700aec47fa275c4b9360a34a45b34fe"), looks := true }, kinds := [], alts := [], laidByText := true, laidKinds := [.data, .data, .data, .sentinel, .sentinel], laidTests := true, laidLooks := .later }
def WholeTextsCardSaid : Prop := Claim7.holds Tryd.pinned (.plain (OpenSpec.ofChange wholeTextsSpec)) wholeTextsCard

/-- THE TIED CARD OF 'marlinelaw09.WordKnows'. -/
def wordKnowsCard : Claim7 := { stood := { row := wordKnowsRow, standIns := [], harness := (true, "561cbfb288ef364f450d5b70943f40155700aec47fa275c4b9360a34a45b34fe"), looks := true }, kinds := [], alts := [], laidByText := true, laidKinds := [.listed, .data, .data], laidTests := true, laidLooks := .later }
def WordKnowsCardSaid : Prop := Claim7.holds Tryd.pinned (.plain (OpenSpec.ofChange wordKnowsSpec)) wordKnowsCard

/-- THE TIED CARD OF 'marlinelaw09.WordSigns'. -/
def wordSignsCard : Claim7 := { stood := { row := wordSignsRow, standIns := [], harness := (true, "561cbfb288ef364f450d5b70943f40155700aec47fa275c4b9360a34a45b34fe"), looks := true }, kinds := [], alts := [], laidByText := true, laidKinds := [.listed, .data, .data], laidTests := true, laidLooks := .later }
def WordSignsCardSaid : Prop := Claim7.holds Tryd.pinned (.plain (OpenSpec.ofChange wordSignsSpec)) wordSignsCard

/-- THE SECOND FORM's CARD OF 'marlinelaw01.WholeParts'. -/
def wholePartsUptoCard : Claim7 := { stood := { row := wholePartsUptoRow, standIns := [], harness := (true, "561cbfb288ef364f450d5b70943f40155700aec47fa275c4b9360a34a45b34fe"), looks := true }, kinds := [], alts := [], laidByText := true, laidKinds := [.data, .data, .data], laidTests := true, laidLooks := .later }
def WholePartsUptoCardSaid : Prop := Claim7.holds Tryd.pinned (.plain (OpenSpec.upto wholePartsSpec)) wholePartsUptoCard

/-- THE SECOND FORM's CARD OF 'marlinelaw01.WholeDoes'. -/
def wholeDoesUptoCard : Claim7 := { stood := { row := wholeDoesUptoRow, standIns := [], harness := (true, "561cbfb288ef364f450d5b70943f40155700aec47fa275c4b9360a34a45b34fe"), looks := true }, kinds := [], alts := [], laidByText := true, laidKinds := [.data, .data, .data], laidTests := true, laidLooks := .later }
def WholeDoesUptoCardSaid : Prop := Claim7.holds Tryd.pinned (.plain (OpenSpec.upto wholeDoesSpec)) wholeDoesUptoCard

/-- THE SECOND FORM's CARD OF 'marlinelaw01.WholeTexts'. -/
def wholeTextsUptoCard : Claim7 := { stood := { row := wholeTextsUptoRow, standIns := [], harness := (true, "561cbfb288ef364f450d5b70943f40155700aec47fa275c4b9360a34a45b34fe"), looks := true }, kinds := [], alts := [], laidByText := true, laidKinds := [.data, .data, .data, .sentinel, .sentinel], laidTests := true, laidLooks := .later }
def WholeTextsUptoCardSaid : Prop := Claim7.holds Tryd.pinned (.plain (OpenSpec.upto wholeTextsSpec)) wholeTextsUptoCard

/-- THE SECOND FORM's CARD OF 'marlinelaw09.WordKnows'. -/
def wordKnowsUptoCard : Claim7 := { stood := { row := wordKnowsUptoRow, standIns := [], harness := (true, "561cbfb288ef364f450d5b70943f40155700aec47fa275c4b9360a34a45b34fe"), looks := true }, kinds := [], alts := [], laidByText := true, laidKinds := [.listed, .data, .data], laidTests := true, laidLooks := .later }
def WordKnowsUptoCardSaid : Prop := Claim7.holds Tryd.pinned (.plain (OpenSpec.upto wordKnowsSpec)) wordKnowsUptoCard

/-- THE SECOND FORM's CARD OF 'marlinelaw09.WordSigns'. -/
def wordSignsUptoCard : Claim7 := { stood := { row := wordSignsUptoRow, standIns := [], harness := (true, "561cbfb288ef364f450d5b70943f40155700aec47fa275c4b9360a34a45b34fe"), looks := true }, kinds := [], alts := [], laidByText := true, laidKinds := [.listed, .data, .data], laidTests := true, laidLooks := .later }
def WordSignsUptoCardSaid : Prop := Claim7.holds Tryd.pinned (.plain (OpenSpec.upto wordSignsSpec)) wordSignsUptoCard
end Rows
end Go.Proofs.YtacpolhilhindaaDoor
