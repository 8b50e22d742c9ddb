/-
  DERIVED. GIVEN WITH THE SEED: THE CARDS: each row of YtepemdmjbfoiaaaDoorRows.lean that lists a variable, with what it lists TIED to the program's text (the seventh form; the later family's looks); each row that meets fmt, with fmt's text TOLD by the authors' own Lean function (tested against real Go, not proved from fmt's source: count such statements apart). THE CARD IS WHAT COUNTS. Prove the row's statement (the work); the ties are given (YtepemdmjbfoiaaaDoorTie.lean); close each card by the builder's one call (the guide's Derived/Test/ToyasCard.lean, 'card_holds'). Laid BY PROGRAM, IN A SANDBOX (cutbox-door.mjs). By AI agents, Wed Nov 11 2026. No macro, syntax, notation, axiom, sorry.
-/
import Derived.Test.YtepemdmjbfoiaaaDoorRows
import GoSem.ClaimSeven
namespace Go.Proofs.YtepemdmjbfoiaaaDoor
namespace Rows

/-- THE TIED CARD OF 'waypostlaw05.TokenBack'. -/
def tokenBackCard : Claim7 := { stood := { row := tokenBackRow, standIns := [], harness := (true, "23a6140941611d43e5f383af46b0faa0f7040d879b5f046e151e78988503b116"), looks := false }, kinds := [], alts := [], laidByText := true, laidKinds := [.data, .pinned], laidTests := true, laidLooks := .later }
def TokenBackCardSaid : Prop := Claim7.holds Tryd.pinned (.plain (OpenSpec.ofChange tokenBackSpec)) tokenBackCard

/-- THE TIED CARD OF 'waypostlaw05.TokenKnown'. -/
def tokenKnownCard : Claim7 := { stood := { row := tokenKnownRow, standIns := [], harness := (true, "23a6140941611d43e5f383af46b0faa0f7040d879b5f046e151e78988503b116"), looks := false }, kinds := [], alts := [], laidByText := true, laidKinds := [.data, .pinned], laidTests := true, laidLooks := .later }
def TokenKnownCardSaid : Prop := Claim7.holds Tryd.pinned (.plain (OpenSpec.ofChange tokenKnownSpec)) tokenKnownCard

/-- THE TIED CARD OF 'waypostlaw05.TokenLists'. -/
def tokenListsCard : Claim7 := { stood := { row := tokenListsRow, standIns := [], harness := (true, "23a6140941611d43e5f383af46b0faa0f7040d879b5f046e151e78988503b116"), looks := false }, kinds := [], alts := [], laidByText := true, laidKinds := [.data, .pinned], laidTests := true, laidLooks := .later }
def TokenListsCardSaid : Prop := Claim7.holds Tryd.pinned (.plain (OpenSpec.ofChange tokenListsSpec)) tokenListsCard

/-- THE TIED CARD OF 'waypostlaw05.TokenOnes'. -/
def tokenOnesCard : Claim7 := { stood := { row := tokenOnesRow, standIns := [], harness := (true, "23a6140941611d43e5f383af46b0faa0f7040d879b5f046e151e78988503b116"), looks := false }, kinds := [], alts := [], laidByText := true, laidKinds := [.data, .pinned], laidTests := true, laidLooks := .later }
def TokenOnesCardSaid : Prop := Claim7.holds Tryd.pinned (.plain (OpenSpec.ofChange tokenOnesSpec)) tokenOnesCard

/-- THE TIED CARD OF 'waypostlaw05.TokenSame'. -/
def tokenSameCard : Claim7 := { stood := { row := tokenSameRow, standIns := [], harness := (true, "23a6140941611d43e5f383af46b0faa0f7040d879b5f046e151e78988503b116"), looks := false }, kinds := [], alts := [], laidByText := true, laidKinds := [.data, .pinned], laidTests := true, laidLooks := .later }
def TokenSameCardSaid : Prop := Claim7.holds Tryd.pinned (.plain (OpenSpec.ofChange tokenSameSpec)) tokenSameCard

/-- THE TIED CARD OF 'waypostlaw05.TokenTrims'. -/
def tokenTrimsCard : Claim7 := { stood := { row := tokenTrimsRow, standIns := [], harness := (true, "23a6140941611d43e5f383af46b0faa0f7040d879b5f046e151e78988503b116"), looks := false }, kinds := [], alts := [], laidByText := true, laidKinds := [.data, .pinned], laidTests := true, laidLooks := .later }
def TokenTrimsCardSaid : Prop := Claim7.holds Tryd.pinned (.plain (OpenSpec.ofChange tokenTrimsSpec)) tokenTrimsCard

/-- THE TIED CARD OF 'waypostlaw06.FieldBack'. -/
def fieldBackCard : Claim7 := { stood := { row := fieldBackRow, standIns := [], harness := (true, "23a6140941611d43e5f383af46b0faa0f7040d879b5f046e151e78988503b116"), looks := false }, kinds := [], alts := [], laidByText := true, laidKinds := [.data, .pinned], laidTests := true, laidLooks := .later }
def FieldBackCardSaid : Prop := Claim7.holds Tryd.pinned (.plain (OpenSpec.ofChange fieldBackSpec)) fieldBackCard

/-- THE TIED CARD OF 'waypostlaw06.FieldChanges'. -/
def fieldChangesCard : Claim7 := { stood := { row := fieldChangesRow, standIns := [], harness := (true, "23a6140941611d43e5f383af46b0faa0f7040d879b5f046e151e78988503b116"), looks := false }, kinds := [], alts := [], laidByText := true, laidKinds := [.data, .pinned], laidTests := true, laidLooks := .later }
def FieldChangesCardSaid : Prop := Claim7.holds Tryd.pinned (.plain (OpenSpec.ofChange fieldChangesSpec)) fieldChangesCard

/-- THE TIED CARD OF 'waypostlaw06.FieldDrops'. -/
def fieldDropsCard : Claim7 := { stood := { row := fieldDropsRow, standIns := [], harness := (true, "23a6140941611d43e5f383af46b0faa0f7040d879b5f046e151e78988503b116"), looks := false }, kinds := [], alts := [], laidByText := true, laidKinds := [.data, .pinned], laidTests := true, laidLooks := .later }
def FieldDropsCardSaid : Prop := Claim7.holds Tryd.pinned (.plain (OpenSpec.ofChange fieldDropsSpec)) fieldDropsCard

/-- THE TIED CARD OF 'waypostlaw06.FieldKnown'. -/
def fieldKnownCard : Claim7 := { stood := { row := fieldKnownRow, standIns := [], harness := (true, "23a6140941611d43e5f383af46b0faa0f7040d879b5f046e151e78988503b116"), looks := false }, kinds := [], alts := [], laidByText := true, laidKinds := [.data, .pinned], laidTests := true, laidLooks := .later }
def FieldKnownCardSaid : Prop := Claim7.holds Tryd.pinned (.plain (OpenSpec.ofChange fieldKnownSpec)) fieldKnownCard

/-- THE TIED CARD OF 'waypostlaw06.FieldLooks'. -/
def fieldLooksCard : Claim7 := { stood := { row := fieldLooksRow, standIns := [], harness := (true, "23a6140941611d43e5f383af46b0faa0f7040d879b5f046e151e78988503b116"), looks := false }, kinds := [], alts := [], laidByText := true, laidKinds := [.data, .pinned], laidTests := true, laidLooks := .later }
def FieldLooksCardSaid : Prop := Claim7.holds Tryd.pinned (.plain (OpenSpec.ofChange fieldLooksSpec)) fieldLooksCard

/-- THE TIED CARD OF 'waypostlaw06.FieldPuts'. -/
def fieldPutsCard : Claim7 := { stood := { row := fieldPutsRow, standIns := [], harness := (true, "23a6140941611d43e5f383af46b0faa0f7040d879b5f046e151e78988503b116"), looks := false }, kinds := [], alts := [], laidByText := true, laidKinds := [.data, .pinned], laidTests := true, laidLooks := .later }
def FieldPutsCardSaid : Prop := Claim7.holds Tryd.pinned (.plain (OpenSpec.ofChange fieldPutsSpec)) fieldPutsCard

/-- THE TIED CARD OF 'waypostlaw13.PersistAnswers'. -/
def persistAnswersCard : Claim7 := { stood := { row := persistAnswersRow, standIns := [], harness := (true, "23a6140941611d43e5f383af46b0faa0f7040d879b5f046e151e78988503b116"), looks := false }, kinds := [], alts := [], laidByText := true, laidKinds := [.data, .pinned], laidTests := true, laidLooks := .later }
def PersistAnswersCardSaid : Prop := Claim7.holds Tryd.pinned (.plain (OpenSpec.ofChange persistAnswersSpec)) persistAnswersCard

/-- THE TIED CARD OF 'waypostlaw13.PersistKeeps'. -/
def persistKeepsCard : Claim7 := { stood := { row := persistKeepsRow, standIns := [], harness := (true, "23a6140941611d43e5f383af46b0faa0f7040d879b5f046e151e78988503b116"), looks := false }, kinds := [], alts := [], laidByText := true, laidKinds := [.data, .pinned], laidTests := true, laidLooks := .later }
def PersistKeepsCardSaid : Prop := Claim7.holds Tryd.pinned (.plain (OpenSpec.ofChange persistKeepsSpec)) persistKeepsCard

/-- THE TIED CARD OF 'waypostlaw13.PersistKnown'. -/
def persistKnownCard : Claim7 := { stood := { row := persistKnownRow, standIns := [], harness := (true, "23a6140941611d43e5f383af46b0faa0f7040d879b5f046e151e78988503b116"), looks := false }, kinds := [], alts := [], laidByText := true, laidKinds := [.data, .pinned], laidTests := true, laidLooks := .later }
def PersistKnownCardSaid : Prop := Claim7.holds Tryd.pinned (.plain (OpenSpec.ofChange persistKnownSpec)) persistKnownCard

/-- THE TIED CARD OF 'waypostlaw13.PersistParts'. -/
def persistPartsCard : Claim7 := { stood := { row := persistPartsRow, standIns := [], harness := (true, "23a6140941611d43e5f383af46b0faa0f7040d879b5f046e151e78988503b116"), looks := false }, kinds := [], alts := [], laidByText := true, laidKinds := [.data, .pinned], laidTests := true, laidLooks := .later }
def PersistPartsCardSaid : Prop := Claim7.holds Tryd.pinned (.plain (OpenSpec.ofChange persistPartsSpec)) persistPartsCard

/-- THE TIED CARD OF 'waypostlaw13.PersistRuns'. -/
def persistRunsCard : Claim7 := { stood := { row := persistRunsRow, standIns := [], harness := (true, "23a6140941611d43e5f383af46b0faa0f7040d879b5f046e151e78988503b116"), looks := false }, kinds := [], alts := [], laidByText := true, laidKinds := [.data, .pinned], laidTests := true, laidLooks := .later }
def PersistRunsCardSaid : Prop := Claim7.holds Tryd.pinned (.plain (OpenSpec.ofChange persistRunsSpec)) persistRunsCard

/-- THE TIED CARD OF 'waypostlaw13.PersistSteps'. -/
def persistStepsCard : Claim7 := { stood := { row := persistStepsRow, standIns := [], harness := (true, "23a6140941611d43e5f383af46b0faa0f7040d879b5f046e151e78988503b116"), looks := false }, kinds := [], alts := [], laidByText := true, laidKinds := [.data, .pinned], laidTests := true, laidLooks := .later }
def PersistStepsCardSaid : Prop := Claim7.holds Tryd.pinned (.plain (OpenSpec.ofChange persistStepsSpec)) persistStepsCard

/-- THE SECOND FORM's CARD OF 'waypostlaw05.TokenBack'. -/
def tokenBackUptoCard : Claim7 := { stood := { row := tokenBackUptoRow, standIns := [], harness := (true, "23a6140941611d43e5f383af46b0faa0f7040d879b5f046e151e78988503b116"), looks := false }, kinds := [], alts := [], laidByText := true, laidKinds := [.data, .pinned], laidTests := true, laidLooks := .later }
def TokenBackUptoCardSaid : Prop := Claim7.holds Tryd.pinned (.plain (OpenSpec.upto tokenBackSpec)) tokenBackUptoCard

/-- THE SECOND FORM's CARD OF 'waypostlaw05.TokenKnown'. -/
def tokenKnownUptoCard : Claim7 := { stood := { row := tokenKnownUptoRow, standIns := [], harness := (true, "23a6140941611d43e5f383af46b0faa0f7040d879b5f046e151e78988503b116"), looks := false }, kinds := [], alts := [], laidByText := true, laidKinds := [.data, .pinned], laidTests := true, laidLooks := .later }
def TokenKnownUptoCardSaid : Prop := Claim7.holds Tryd.pinned (.plain (OpenSpec.upto tokenKnownSpec)) tokenKnownUptoCard

/-- THE SECOND FORM's CARD OF 'waypostlaw05.TokenLists'. -/
def tokenListsUptoCard : Claim7 := { stood := { row := tokenListsUptoRow, standIns := [], harness := (true, "23a6140941611d43e5f383af46b0faa0f7040d879b5f046e151e78988503b116"), looks := false }, kinds := [], alts := [], laidByText := true, laidKinds := [.data, .pinned], laidTests := true, laidLooks := .later }
def TokenListsUptoCardSaid : Prop := Claim7.holds Tryd.pinned (.plain (OpenSpec.upto tokenListsSpec)) tokenListsUptoCard

/-- THE SECOND FORM's CARD OF 'waypostlaw05.TokenOnes'. -/
def tokenOnesUptoCard : Claim7 := { stood := { row := tokenOnesUptoRow, standIns := [], harness := (true, "23a6140941611d43e5f383af46b0faa0f7040d879b5f046e151e78988503b116"), looks := false }, kinds := [], alts := [], laidByText := true, laidKinds := [.data, .pinned], laidTests := true, laidLooks := .later }
def TokenOnesUptoCardSaid : Prop := Claim7.holds Tryd.pinned (.plain (OpenSpec.upto tokenOnesSpec)) tokenOnesUptoCard

/-- THE SECOND FORM's CARD OF 'waypostlaw05.TokenSame'. -/
def tokenSameUptoCard : Claim7 := { stood := { row := tokenSameUptoRow, standIns := [], harness := (true, "23a6140941611d43e5f383af46b0faa0f7040d879b5f046e151e78988503b116"), looks := false }, kinds := [], alts := [], laidByText := true, laidKinds := [.data, .pinned], laidTests := true, laidLooks := .later }
def TokenSameUptoCardSaid : Prop := Claim7.holds Tryd.pinned (.plain (OpenSpec.upto tokenSameSpec)) tokenSameUptoCard

/-- THE SECOND FORM's CARD OF 'waypostlaw05.TokenTrims'. -/
def tokenTrimsUptoCard : Claim7 := { stood := { row := tokenTrimsUptoRow, standIns := [], harness := (true, "23a6140941611d43e5f383af46b0faa0f7040d879b5f046e151e78988503b116"), looks := false }, kinds := [], alts := [], laidByText := true, laidKinds := [.data, .pinned], laidTests := true, laidLooks := .later }
def TokenTrimsUptoCardSaid : Prop := Claim7.holds Tryd.pinned (.plain (OpenSpec.upto tokenTrimsSpec)) tokenTrimsUptoCard

/-- THE SECOND FORM's CARD OF 'waypostlaw06.FieldBack'. -/
def fieldBackUptoCard : Claim7 := { stood := { row := fieldBackUptoRow, standIns := [], harness := (true, "23a6140941611d43e5f383af46b0faa0f7040d879b5f046e151e78988503b116"), looks := false }, kinds := [], alts := [], laidByText := true, laidKinds := [.data, .pinned], laidTests := true, laidLooks := .later }
def FieldBackUptoCardSaid : Prop := Claim7.holds Tryd.pinned (.plain (OpenSpec.upto fieldBackSpec)) fieldBackUptoCard

/-- THE SECOND FORM's CARD OF 'waypostlaw06.FieldChanges'. -/
def fieldChangesUptoCard : Claim7 := { stood := { row := fieldChangesUptoRow, standIns := [], harness := (true, "23a6140941611d43e5f383af46b0faa0f7040d879b5f046e151e78988503b116"), looks := false }, kinds := [], alts := [], laidByText := true, laidKinds := [.data, .pinned], laidTests := true, laidLooks := .later }
def FieldChangesUptoCardSaid : Prop := Claim7.holds Tryd.pinned (.plain (OpenSpec.upto fieldChangesSpec)) fieldChangesUptoCard

/-- THE SECOND FORM's CARD OF 'waypostlaw06.FieldDrops'. -/
def fieldDropsUptoCard : Claim7 := { stood := { row := fieldDropsUptoRow, standIns := [], harness := (true, "23a6140941611d43e5f383af46b0faa0f7040d879b5f046e151e78988503b116"), looks := false }, kinds := [], alts := [], laidByText := true, laidKinds := [.data, .pinned], laidTests := true, laidLooks := .later }
def FieldDropsUptoCardSaid : Prop := Claim7.holds Tryd.pinned (.plain (OpenSpec.upto fieldDropsSpec)) fieldDropsUptoCard

/-- THE SECOND FORM's CARD OF 'waypostlaw06.FieldKnown'. -/
def fieldKnownUptoCard : Claim7 := { stood := { row := fieldKnownUptoRow, standIns := [], harness := (true, "23a6140941611d43e5f383af46b0faa0f7040d879b5f046e151e78988503b116"), looks := false }, kinds := [], alts := [], laidByText := true, laidKinds := [.data, .pinned], laidTests := true, laidLooks := .later }
def FieldKnownUptoCardSaid : Prop := Claim7.holds Tryd.pinned (.plain (OpenSpec.upto fieldKnownSpec)) fieldKnownUptoCard

/-- THE SECOND FORM's CARD OF 'waypostlaw06.FieldLooks'. -/
def fieldLooksUptoCard : Claim7 := { stood := { row := fieldLooksUptoRow, standIns := [], harness := (true, "23a6140941611d43e5f383af46b0faa0f7040d879b5f046e151e78988503b116"), looks := false }, kinds := [], alts := [], laidByText := true, laidKinds := [.data, .pinned], laidTests := true, laidLooks := .later }
def FieldLooksUptoCardSaid : Prop := Claim7.holds Tryd.pinned (.plain (OpenSpec.upto fieldLooksSpec)) fieldLooksUptoCard

/-- THE SECOND FORM's CARD OF 'waypostlaw06.FieldPuts'. -/
def fieldPutsUptoCard : Claim7 := { stood := { row := fieldPutsUptoRow, standIns := [], harness := (true, "23a6140941611d43e5f383af46b0faa0f7040d879b5f046e151e78988503b116"), looks := false }, kinds := [], alts := [], laidByText := true, laidKinds := [.data, .pinned], laidTests := true, laidLooks := .later }
def FieldPutsUptoCardSaid : Prop := Claim7.holds Tryd.pinned (.plain (OpenSpec.upto fieldPutsSpec)) fieldPutsUptoCard

/-- THE SECOND FORM's CARD OF 'waypostlaw13.PersistAnswers'. -/
def persistAnswersUptoCard : Claim7 := { stood := { row := persistAnswersUptoRow, standIns := [], harness := (true, "23a6140941611d43e5f383af46b0faa0f7040d879b5f046e151e78988503b116"), looks := false }, kinds := [], alts := [], laidByText := true, laidKinds := [.data, .pinned], laidTests := true, laidLooks := .later }
def PersistAnswersUptoCardSaid : Prop := Claim7.holds Tryd.pinned (.plain (OpenSpec.upto persistAnswersSpec)) persistAnswersUptoCard

/-- THE SECOND FORM's CARD OF 'waypostlaw13.PersistKeeps'. -/
def persistKeepsUptoCard : Claim7 := { stood := { row := persistKeepsUptoRow, standIns := [], harness := (true, "23a6140941611d43e5f383af46b0faa0f7040d879b5f046e151e78988503b116"), looks := false }, kinds := [], alts := [], laidByText := true, laidKinds := [.data, .pinned], laidTests := true, laidLooks := .later }
def PersistKeepsUptoCardSaid : Prop := Claim7.holds Tryd.pinned (.plain (OpenSpec.upto persistKeepsSpec)) persistKeepsUptoCard

/-- THE SECOND FORM's CARD OF 'waypostlaw13.PersistKnown'. -/
def persistKnownUptoCard : Claim7 := { stood := { row := persistKnownUptoRow, standIns := [], harness := (true, "23a6140941611d43e5f383af46b0faa0f7040d879b5f046e151e78988503b116"), looks := false }, kinds := [], alts := [], laidByText := true, laidKinds := [.data, .pinned], laidTests := true, laidLooks := .later }
def PersistKnownUptoCardSaid : Prop := Claim7.holds Tryd.pinned (.plain (OpenSpec.upto persistKnownSpec)) persistKnownUptoCard

/-- THE SECOND FORM's CARD OF 'waypostlaw13.PersistParts'. -/
def persistPartsUptoCard : Claim7 := { stood := { row := persistPartsUptoRow, standIns := [], harness := (true, "23a6140941611d43e5f383af46b0faa0f7040d879b5f046e151e78988503b116"), looks := false }, kinds := [], alts := [], laidByText := true, laidKinds := [.data, .pinned], laidTests := true, laidLooks := .later }
def PersistPartsUptoCardSaid : Prop := Claim7.holds Tryd.pinned (.plain (OpenSpec.upto persistPartsSpec)) persistPartsUptoCard

/-- THE SECOND FORM's CARD OF 'waypostlaw13.PersistRuns'. -/
def persistRunsUptoCard : Claim7 := { stood := { row := persistRunsUptoRow, standIns := [], harness := (true, "23a6140941611d43e5f383af46b0faa0f7040d879b5f046e151e78988503b116"), looks := false }, kinds := [], alts := [], laidByText := true, laidKinds := [.data, .pinned], laidTests := true, laidLooks := .later }
def PersistRunsUptoCardSaid : Prop := Claim7.holds Tryd.pinned (.plain (OpenSpec.upto persistRunsSpec)) persistRunsUptoCard

/-- THE SECOND FORM's CARD OF 'waypostlaw13.PersistSteps'. -/
def persistStepsUptoCard : Claim7 := { stood := { row := persistStepsUptoRow, standIns := [], harness := (true, "23a6140941611d43e5f383af46b0faa0f7040d879b5f046e151e78988503b116"), looks := false }, kinds := [], alts := [], laidByText := true, laidKinds := [.data, .pinned], laidTests := true, laidLooks := .later }
def PersistStepsUptoCardSaid : Prop := Claim7.holds Tryd.pinned (.plain (OpenSpec.upto persistStepsSpec)) persistStepsUptoCard
end Rows
end Go.Proofs.YtepemdmjbfoiaaaDoor
