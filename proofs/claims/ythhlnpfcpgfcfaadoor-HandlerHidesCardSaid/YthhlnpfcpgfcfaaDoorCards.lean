/-
  DERIVED. GIVEN WITH THE SEED: THE CARDS: each row of YthhlnpfcpgfcfaaDoorRows.lean that lists a variable, with what it lists TIED to the program's text (the seventh form; the later family's looks); each row that meets fmt, with fmt's text TOLD by the authors' own Lean function (tested against real Go, not proved from fmt's source: count such statements apart). THE CARD IS WHAT COUNTS. Prove the row's statement (the work); the ties are given (YthhlnpfcpgfcfaaDoorTie.lean); close each card by the builder's one call (the guide's Derived/Test/ToyasCard.lean, 'card_holds'). Laid BY PROGRAM, IN A SANDBOX (cutbox-door.mjs). By AI agents, Wed Nov 11 2026. No macro, syntax, notation, axiom, sorry.
-/
import Derived.Test.YthhlnpfcpgfcfaaDoorRows
import GoSem.ClaimSeven
namespace Go.Proofs.YthhlnpfcpgfcfaaDoor
namespace Rows

/-- THE TIED CARD OF 'waypostlaw12.RespondBack'. -/
def respondBackCard : Claim7 := { stood := { row := respondBackRow, standIns := [], harness := (true, "8ed1df19f7ad82e4eefb73f8980b4dce308410fe610c26c7778ebef388099218"), looks := true }, kinds := [], alts := [], laidByText := true, laidKinds := [.data, .data, .data, .data, .sentinel, .sentinel, .listed, .data, .data, .pinned], laidTests := true, laidLooks := .later }
def RespondBackCardSaid : Prop := Claim7.holds Tryd.pinned (.plain (OpenSpec.ofChange respondBackSpec)) respondBackCard

/-- THE TIED CARD OF 'waypostlaw12.RespondJoin'. -/
def respondJoinCard : Claim7 := { stood := { row := respondJoinRow, standIns := [], harness := (true, "8ed1df19f7ad82e4eefb73f8980b4dce308410fe610c26c7778ebef388099218"), looks := true }, kinds := [], alts := [], laidByText := true, laidKinds := [.data, .data, .data, .data, .sentinel, .sentinel, .listed, .data, .data, .pinned], laidTests := true, laidLooks := .later }
def RespondJoinCardSaid : Prop := Claim7.holds Tryd.pinned (.plain (OpenSpec.ofChange respondJoinSpec)) respondJoinCard

/-- THE TIED CARD OF 'waypostlaw12.RespondKnown'. -/
def respondKnownCard : Claim7 := { stood := { row := respondKnownRow, standIns := [], harness := (true, "8ed1df19f7ad82e4eefb73f8980b4dce308410fe610c26c7778ebef388099218"), looks := true }, kinds := [], alts := [], laidByText := true, laidKinds := [.data, .data, .data, .data, .sentinel, .sentinel, .listed, .data, .data, .pinned], laidTests := true, laidLooks := .later }
def RespondKnownCardSaid : Prop := Claim7.holds Tryd.pinned (.plain (OpenSpec.ofChange respondKnownSpec)) respondKnownCard

/-- THE TIED CARD OF 'waypostlaw42.HandlerBodies'. -/
def handlerBodiesCard : Claim7 := { stood := { row := handlerBodiesRow, standIns := [], harness := (true, "8ed1df19f7ad82e4eefb73f8980b4dce308410fe610c26c7778ebef388099218"), looks := true }, kinds := [], alts := [], laidByText := true, laidKinds := [.data, .data, .data, .data, .data, .pinned], laidTests := true, laidLooks := .later }
def HandlerBodiesCardSaid : Prop := Claim7.holds Tryd.pinned (.plain (OpenSpec.ofChange handlerBodiesSpec)) handlerBodiesCard

/-- THE TIED CARD OF 'waypostlaw42.HandlerHides'. -/
def handlerHidesCard : Claim7 := { stood := { row := handlerHidesRow, standIns := [], harness := (true, "8ed1df19f7ad82e4eefb73f8980b4dce308410fe610c26c7778ebef388099218"), looks := true }, kinds := [], alts := [], laidByText := true, laidKinds := [.data, .data, .data, .data, .listed, .data, .data, .pinned], laidTests := true, laidLooks := .later }
def HandlerHidesCardSaid : Prop := Claim7.holds Tryd.pinned (.plain (OpenSpec.ofChange handlerHidesSpec)) handlerHidesCard

/-- THE TIED CARD OF 'waypostlaw42.HandlerKnown'. -/
def handlerKnownCard : Claim7 := { stood := { row := handlerKnownRow, standIns := [], harness := (true, "8ed1df19f7ad82e4eefb73f8980b4dce308410fe610c26c7778ebef388099218"), looks := true }, kinds := [], alts := [], laidByText := true, laidKinds := [.data, .data, .data, .data, .listed, .data, .data, .pinned], laidTests := true, laidLooks := .later }
def HandlerKnownCardSaid : Prop := Claim7.holds Tryd.pinned (.plain (OpenSpec.ofChange handlerKnownSpec)) handlerKnownCard

/-- THE TIED CARD OF 'waypostlaw42.HandlerRoots'. -/
def handlerRootsCard : Claim7 := { stood := { row := handlerRootsRow, standIns := [], harness := (true, "8ed1df19f7ad82e4eefb73f8980b4dce308410fe610c26c7778ebef388099218"), looks := true }, kinds := [], alts := [], laidByText := true, laidKinds := [.data, .data, .data, .data, .listed, .data, .data, .pinned], laidTests := true, laidLooks := .later }
def HandlerRootsCardSaid : Prop := Claim7.holds Tryd.pinned (.plain (OpenSpec.ofChange handlerRootsSpec)) handlerRootsCard

/-- THE SECOND FORM's CARD OF 'waypostlaw12.RespondBack'. -/
def respondBackUptoCard : Claim7 := { stood := { row := respondBackUptoRow, standIns := [], harness := (true, "8ed1df19f7ad82e4eefb73f8980b4dce308410fe610c26c7778ebef388099218"), looks := true }, kinds := [], alts := [], laidByText := true, laidKinds := [.data, .data, .data, .data, .sentinel, .sentinel, .listed, .data, .data, .pinned], laidTests := true, laidLooks := .later }
def RespondBackUptoCardSaid : Prop := Claim7.holds Tryd.pinned (.plain (OpenSpec.upto respondBackSpec)) respondBackUptoCard

/-- THE SECOND FORM's CARD OF 'waypostlaw12.RespondJoin'. -/
def respondJoinUptoCard : Claim7 := { stood := { row := respondJoinUptoRow, standIns := [], harness := (true, "8ed1df19f7ad82e4eefb73f8980b4dce308410fe610c26c7778ebef388099218"), looks := true }, kinds := [], alts := [], laidByText := true, laidKinds := [.data, .data, .data, .data, .sentinel, .sentinel, .listed, .data, .data, .pinned], laidTests := true, laidLooks := .later }
def RespondJoinUptoCardSaid : Prop := Claim7.holds Tryd.pinned (.plain (OpenSpec.upto respondJoinSpec)) respondJoinUptoCard

/-- THE SECOND FORM's CARD OF 'waypostlaw12.RespondKnown'. -/
def respondKnownUptoCard : Claim7 := { stood := { row := respondKnownUptoRow, standIns := [], harness := (true, "8ed1df19f7ad82e4eefb73f8980b4dce308410fe610c26c7778ebef388099218"), looks := true }, kinds := [], alts := [], laidByText := true, laidKinds := [.data, .data, .data, .data, .sentinel, .sentinel, .listed, .data, .data, .pinned], laidTests := true, laidLooks := .later }
def RespondKnownUptoCardSaid : Prop := Claim7.holds Tryd.pinned (.plain (OpenSpec.upto respondKnownSpec)) respondKnownUptoCard

/-- THE SECOND FORM's CARD OF 'waypostlaw42.HandlerBodies'. -/
def handlerBodiesUptoCard : Claim7 := { stood := { row := handlerBodiesUptoRow, standIns := [], harness := (true, "8ed1df19f7ad82e4eefb73f8980b4dce308410fe610c26c7778ebef388099218"), looks := true }, kinds := [], alts := [], laidByText := true, laidKinds := [.data, .data, .data, .data, .data, .pinned], laidTests := true, laidLooks := .later }
def HandlerBodiesUptoCardSaid : Prop := Claim7.holds Tryd.pinned (.plain (OpenSpec.upto handlerBodiesSpec)) handlerBodiesUptoCard

/-- THE SECOND FORM's CARD OF 'waypostlaw42.HandlerHides'. -/
def handlerHidesUptoCard : Claim7 := { stood := { row := handlerHidesUptoRow, standIns := [], harness := (true, "8ed1df19f7ad82e4eefb73f8980b4dce308410fe610c26c7778ebef388099218"), looks := true }, kinds := [], alts := [], laidByText := true, laidKinds := [.data, .data, .data, .data, .listed, .data, .data, .pinned], laidTests := true, laidLooks := .later }
def HandlerHidesUptoCardSaid : Prop := Claim7.holds Tryd.pinned (.plain (OpenSpec.upto handlerHidesSpec)) handlerHidesUptoCard

/-- THE SECOND FORM's CARD OF 'waypostlaw42.HandlerKnown'. -/
def handlerKnownUptoCard : Claim7 := { stood := { row := handlerKnownUptoRow, standIns := [], harness := (true, "8ed1df19f7ad82e4eefb73f8980b4dce308410fe610c26c7778ebef388099218"), looks := true }, kinds := [], alts := [], laidByText := true, laidKinds := [.data, .data, .data, .data, .listed, .data, .data, .pinned], laidTests := true, laidLooks := .later }
def HandlerKnownUptoCardSaid : Prop := Claim7.holds Tryd.pinned (.plain (OpenSpec.upto handlerKnownSpec)) handlerKnownUptoCard

/-- THE SECOND FORM's CARD OF 'waypostlaw42.HandlerRoots'. -/
def handlerRootsUptoCard : Claim7 := { stood := { row := handlerRootsUptoRow, standIns := [], harness := (true, "8ed1df19f7ad82e4eefb73f8980b4dce308410fe610c26c7778ebef388099218"), looks := true }, kinds := [], alts := [], laidByText := true, laidKinds := [.data, .data, .data, .data, .listed, .data, .data, .pinned], laidTests := true, laidLooks := .later }
def HandlerRootsUptoCardSaid : Prop := Claim7.holds Tryd.pinned (.plain (OpenSpec.upto handlerRootsSpec)) handlerRootsUptoCard
end Rows
end Go.Proofs.YthhlnpfcpgfcfaaDoor
