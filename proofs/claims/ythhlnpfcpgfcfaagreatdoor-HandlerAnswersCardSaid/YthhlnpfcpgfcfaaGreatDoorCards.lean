/-
  DERIVED. GIVEN WITH THE SEED: THE CARDS: each row of YthhlnpfcpgfcfaaGreatDoorRows.lean that lists a variable, with what it lists TIED to the program's text (the seventh form; the later family's looks); each row that meets fmt, with fmt's text TOLD by the authors' own Lean function (tested against real Go, not proved from fmt's source: count such statements apart). THE CARD IS WHAT COUNTS. Prove the row's statement (the work); the ties are given (YthhlnpfcpgfcfaaGreatDoorTie.lean); close each card by the builder's one call (the guide's Derived/Test/ToyasCard.lean, 'card_holds'). Laid BY PROGRAM, IN A SANDBOX (cutbox-door.mjs). By AI agents, Wed Nov 11 2026. No macro, syntax, notation, axiom, sorry.
-/
import Derived.Test.YthhlnpfcpgfcfaaGreatDoorRows
import GoSem.ClaimSeven
namespace Go.Proofs.YthhlnpfcpgfcfaaGreatDoor
namespace Rows

/-- THE TIED CARD OF 'waypostlaw12.RespondSafe'. -/
def respondSafeCard : Claim7 := { stood := { row := respondSafeRow, standIns := [], harness := (true, "d75a90c27732bbfd2eb1c6323fcb31b9e1d7efe7ff14d10d19bab13a8235dcd2"), looks := true }, kinds := [], alts := [], laidByText := true, laidKinds := [.data, .data, .data, .data, .sentinel, .sentinel, .listed, .data, .data, .pinned], laidTests := true, laidLooks := .later }
def RespondSafeCardSaid : Prop := Claim7.holds Tryz.pinned (.plain (OpenSpec.ofChange respondSafeSpec)) respondSafeCard

/-- THE TIED CARD OF 'waypostlaw42.HandlerAnswers'. -/
def handlerAnswersCard : Claim7 := { stood := { row := handlerAnswersRow, standIns := [], harness := (true, "d75a90c27732bbfd2eb1c6323fcb31b9e1d7efe7ff14d10d19bab13a8235dcd2"), looks := true }, kinds := [], alts := [], laidByText := true, laidKinds := [.data, .data, .data, .data, .listed, .data, .data, .pinned], laidTests := true, laidLooks := .later }
def HandlerAnswersCardSaid : Prop := Claim7.holds Tryz.pinned (.plain (OpenSpec.ofChange handlerAnswersSpec)) handlerAnswersCard

/-- THE TIED CARD OF 'waypostlaw42.HandlerSends'. -/
def handlerSendsCard : Claim7 := { stood := { row := handlerSendsRow, standIns := [], harness := (true, "d75a90c27732bbfd2eb1c6323fcb31b9e1d7efe7ff14d10d19bab13a8235dcd2"), looks := true }, kinds := [], alts := [], laidByText := true, laidKinds := [.data, .data, .data, .data, .listed, .data, .data, .pinned], laidTests := true, laidLooks := .later }
def HandlerSendsCardSaid : Prop := Claim7.holds Tryz.pinned (.plain (OpenSpec.ofChange handlerSendsSpec)) handlerSendsCard

/-- THE SECOND FORM's CARD OF 'waypostlaw12.RespondSafe'. -/
def respondSafeUptoCard : Claim7 := { stood := { row := respondSafeUptoRow, standIns := [], harness := (true, "d75a90c27732bbfd2eb1c6323fcb31b9e1d7efe7ff14d10d19bab13a8235dcd2"), looks := true }, kinds := [], alts := [], laidByText := true, laidKinds := [.data, .data, .data, .data, .sentinel, .sentinel, .listed, .data, .data, .pinned], laidTests := true, laidLooks := .later }
def RespondSafeUptoCardSaid : Prop := Claim7.holds Tryz.pinned (.plain (OpenSpec.upto respondSafeSpec)) respondSafeUptoCard

/-- THE SECOND FORM's CARD OF 'waypostlaw42.HandlerAnswers'. -/
def handlerAnswersUptoCard : Claim7 := { stood := { row := handlerAnswersUptoRow, standIns := [], harness := (true, "d75a90c27732bbfd2eb1c6323fcb31b9e1d7efe7ff14d10d19bab13a8235dcd2"), looks := true }, kinds := [], alts := [], laidByText := true, laidKinds := [.data, .data, .data, .data, .listed, .data, .data, .pinned], laidTests := true, laidLooks := .later }
def HandlerAnswersUptoCardSaid : Prop := Claim7.holds Tryz.pinned (.plain (OpenSpec.upto handlerAnswersSpec)) handlerAnswersUptoCard

/-- THE SECOND FORM's CARD OF 'waypostlaw42.HandlerSends'. -/
def handlerSendsUptoCard : Claim7 := { stood := { row := handlerSendsUptoRow, standIns := [], harness := (true, "d75a90c27732bbfd2eb1c6323fcb31b9e1d7efe7ff14d10d19bab13a8235dcd2"), looks := true }, kinds := [], alts := [], laidByText := true, laidKinds := [.data, .data, .data, .data, .listed, .data, .data, .pinned], laidTests := true, laidLooks := .later }
def HandlerSendsUptoCardSaid : Prop := Claim7.holds Tryz.pinned (.plain (OpenSpec.upto handlerSendsSpec)) handlerSendsUptoCard
end Rows
end Go.Proofs.YthhlnpfcpgfcfaaGreatDoor
