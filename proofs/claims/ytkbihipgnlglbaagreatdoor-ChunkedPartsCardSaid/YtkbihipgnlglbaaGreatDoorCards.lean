/-
  DERIVED. GIVEN WITH THE SEED: THE CARDS: each row of YtkbihipgnlglbaaGreatDoorRows.lean that lists a variable, with what it lists TIED to the program's text (the seventh form; the later family's looks); each row that meets fmt, with fmt's text TOLD by the authors' own Lean function (tested against real Go, not proved from fmt's source: count such statements apart). THE CARD IS WHAT COUNTS. Prove the row's statement (the work); the ties are given (YtkbihipgnlglbaaGreatDoorTie.lean); close each card by the builder's one call (the guide's Derived/Test/ToyasCard.lean, 'card_holds'). Laid BY PROGRAM, IN A SANDBOX (cutbox-door.mjs). By AI agents, Wed Nov 11 2026. No macro, syntax, notation, axiom, sorry.
-/
import Derived.Test.YtkbihipgnlglbaaGreatDoorRows
import GoSem.ClaimSeven
namespace Go.Proofs.YtkbihipgnlglbaaGreatDoor
namespace Rows

/-- THE TIED CARD OF 'waypostlaw10.ChunkedDecodes'. -/
def chunkedDecodesCard : Claim7 := { stood := { row := chunkedDecodesRow, standIns := [], harness := (true, "471e87905c48921938b6c4f4c4708279522c0bceae504fac24e1e1b219d25411"), looks := true }, kinds := [], alts := [], laidByText := true, laidKinds := [.data, .data, .data, .data, .sentinel, .sentinel, .pinned], laidTests := true, laidLooks := .later }
def ChunkedDecodesCardSaid : Prop := Claim7.holds Tryz.pinned (.plain (OpenSpec.ofChange chunkedDecodesSpec)) chunkedDecodesCard

/-- THE TIED CARD OF 'waypostlaw10.ChunkedEncodes'. -/
def chunkedEncodesCard : Claim7 := { stood := { row := chunkedEncodesRow, standIns := [], harness := (true, "471e87905c48921938b6c4f4c4708279522c0bceae504fac24e1e1b219d25411"), looks := true }, kinds := [], alts := [], laidByText := true, laidKinds := [.data, .data, .data, .data, .sentinel, .sentinel, .pinned], laidTests := true, laidLooks := .later }
def ChunkedEncodesCardSaid : Prop := Claim7.holds Tryz.pinned (.plain (OpenSpec.ofChange chunkedEncodesSpec)) chunkedEncodesCard

/-- THE TIED CARD OF 'waypostlaw10.ChunkedKnown'. -/
def chunkedKnownCard : Claim7 := { stood := { row := chunkedKnownRow, standIns := [], harness := (true, "471e87905c48921938b6c4f4c4708279522c0bceae504fac24e1e1b219d25411"), looks := true }, kinds := [], alts := [], laidByText := true, laidKinds := [.data, .data, .data, .data, .sentinel, .sentinel, .pinned], laidTests := true, laidLooks := .later }
def ChunkedKnownCardSaid : Prop := Claim7.holds Tryz.pinned (.plain (OpenSpec.ofChange chunkedKnownSpec)) chunkedKnownCard

/-- THE TIED CARD OF 'waypostlaw10.ChunkedBack'. -/
def chunkedBackCard : Claim7 := { stood := { row := chunkedBackRow, standIns := [], harness := (true, "471e87905c48921938b6c4f4c4708279522c0bceae504fac24e1e1b219d25411"), looks := true }, kinds := [], alts := [], laidByText := true, laidKinds := [.data, .data, .data, .data, .sentinel, .sentinel, .pinned], laidTests := true, laidLooks := .later }
def ChunkedBackCardSaid : Prop := Claim7.holds Tryz.pinned (.plain (OpenSpec.ofChange chunkedBackSpec)) chunkedBackCard

/-- THE TIED CARD OF 'waypostlaw10.ChunkedParts'. -/
def chunkedPartsCard : Claim7 := { stood := { row := chunkedPartsRow, standIns := [], harness := (true, "471e87905c48921938b6c4f4c4708279522c0bceae504fac24e1e1b219d25411"), looks := true }, kinds := [], alts := [], laidByText := true, laidKinds := [.data, .data, .data, .data, .sentinel, .sentinel, .pinned], laidTests := true, laidLooks := .later }
def ChunkedPartsCardSaid : Prop := Claim7.holds Tryz.pinned (.plain (OpenSpec.ofChange chunkedPartsSpec)) chunkedPartsCard

/-- THE SECOND FORM's CARD OF 'waypostlaw10.ChunkedDecodes'. -/
def chunkedDecodesUptoCard : Claim7 := { stood := { row := chunkedDecodesUptoRow, standIns := [], harness := (true, "471e87905c48921938b6c4f4c4708279522c0bceae504fac24e1e1b219d25411"), looks := true }, kinds := [], alts := [], laidByText := true, laidKinds := [.data, .data, .data, .data, .sentinel, .sentinel, .pinned], laidTests := true, laidLooks := .later }
def ChunkedDecodesUptoCardSaid : Prop := Claim7.holds Tryz.pinned (.plain (OpenSpec.upto chunkedDecodesSpec)) chunkedDecodesUptoCard

/-- THE SECOND FORM's CARD OF 'waypostlaw10.ChunkedEncodes'. -/
def chunkedEncodesUptoCard : Claim7 := { stood := { row := chunkedEncodesUptoRow, standIns := [], harness := (true, "471e87905c48921938b6c4f4c4708279522c0bceae504fac24e1e1b219d25411"), looks := true }, kinds := [], alts := [], laidByText := true, laidKinds := [.data, .data, .data, .data, .sentinel, .sentinel, .pinned], laidTests := true, laidLooks := .later }
def ChunkedEncodesUptoCardSaid : Prop := Claim7.holds Tryz.pinned (.plain (OpenSpec.upto chunkedEncodesSpec)) chunkedEncodesUptoCard

/-- THE SECOND FORM's CARD OF 'waypostlaw10.ChunkedKnown'. -/
def chunkedKnownUptoCard : Claim7 := { stood := { row := chunkedKnownUptoRow, standIns := [], harness := (true, "471e87905c48921938b6c4f4c4708279522c0bceae504fac24e1e1b219d25411"), looks := true }, kinds := [], alts := [], laidByText := true, laidKinds := [.data, .data, .data, .data, .sentinel, .sentinel, .pinned], laidTests := true, laidLooks := .later }
def ChunkedKnownUptoCardSaid : Prop := Claim7.holds Tryz.pinned (.plain (OpenSpec.upto chunkedKnownSpec)) chunkedKnownUptoCard

/-- THE SECOND FORM's CARD OF 'waypostlaw10.ChunkedBack'. -/
def chunkedBackUptoCard : Claim7 := { stood := { row := chunkedBackUptoRow, standIns := [], harness := (true, "471e87905c48921938b6c4f4c4708279522c0bceae504fac24e1e1b219d25411"), looks := true }, kinds := [], alts := [], laidByText := true, laidKinds := [.data, .data, .data, .data, .sentinel, .sentinel, .pinned], laidTests := true, laidLooks := .later }
def ChunkedBackUptoCardSaid : Prop := Claim7.holds Tryz.pinned (.plain (OpenSpec.upto chunkedBackSpec)) chunkedBackUptoCard

/-- THE SECOND FORM's CARD OF 'waypostlaw10.ChunkedParts'. -/
def chunkedPartsUptoCard : Claim7 := { stood := { row := chunkedPartsUptoRow, standIns := [], harness := (true, "471e87905c48921938b6c4f4c4708279522c0bceae504fac24e1e1b219d25411"), looks := true }, kinds := [], alts := [], laidByText := true, laidKinds := [.data, .data, .data, .data, .sentinel, .sentinel, .pinned], laidTests := true, laidLooks := .later }
def ChunkedPartsUptoCardSaid : Prop := Claim7.holds Tryz.pinned (.plain (OpenSpec.upto chunkedPartsSpec)) chunkedPartsUptoCard
end Rows
end Go.Proofs.YtkbihipgnlglbaaGreatDoor
