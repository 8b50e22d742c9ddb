/-
  DERIVED. GIVEN WITH THE SEED: THE CARDS: each row of YtencphfhpnljlaaGreatDoorRows.lean that lists a variable, with what it lists TIED to the program's text (the seventh form; the later family's looks); each row that meets fmt, with fmt's text TOLD by the authors' own Lean function (tested against real Go, not proved from fmt's source: count such statements apart). THE CARD IS WHAT COUNTS. Prove the row's statement (the work); the ties are given (YtencphfhpnljlaaGreatDoorTie.lean); close each card by the builder's one call (the guide's Derived/Test/ToyasCard.lean, 'card_holds'). Laid BY PROGRAM, IN A SANDBOX (cutbox-door.mjs). By AI agents, Wed Nov 11 2026. No macro, syntax, notation, axiom, sorry.
-/
import Derived.Test.YtencphfhpnljlaaGreatDoorRows
import GoSem.ClaimSeven
namespace Go.Proofs.YtencphfhpnljlaaGreatDoor
namespace Rows

/-- THE TIED CARD OF 'waypostlaw11.WireBack'. -/
def wireBackCard : Claim7 := { stood := { row := wireBackRow, standIns := [], harness := (true, "39f3c7a2cf50d3e77c8107290917dd18148e6308a7d65670a87f9a66b56b0eb5"), looks := true }, kinds := [], alts := [], laidByText := true, laidKinds := [.data, .data, .data, .data, .sentinel, .sentinel, .pinned], laidTests := true, laidLooks := .later }
def WireBackCardSaid : Prop := Claim7.holds Tryz.pinned (.plain (OpenSpec.ofChange wireBackSpec)) wireBackCard

/-- THE TIED CARD OF 'waypostlaw11.WireCase'. -/
def wireCaseCard : Claim7 := { stood := { row := wireCaseRow, standIns := [], harness := (true, "39f3c7a2cf50d3e77c8107290917dd18148e6308a7d65670a87f9a66b56b0eb5"), looks := true }, kinds := [], alts := [], laidByText := true, laidKinds := [.data, .data, .data, .data, .sentinel, .sentinel, .pinned], laidTests := true, laidLooks := .later }
def WireCaseCardSaid : Prop := Claim7.holds Tryz.pinned (.plain (OpenSpec.ofChange wireCaseSpec)) wireCaseCard

/-- THE TIED CARD OF 'waypostlaw11.WireKnown'. -/
def wireKnownCard : Claim7 := { stood := { row := wireKnownRow, standIns := [], harness := (true, "39f3c7a2cf50d3e77c8107290917dd18148e6308a7d65670a87f9a66b56b0eb5"), looks := true }, kinds := [], alts := [], laidByText := true, laidKinds := [.data, .data, .data, .data, .sentinel, .sentinel, .pinned], laidTests := true, laidLooks := .later }
def WireKnownCardSaid : Prop := Claim7.holds Tryz.pinned (.plain (OpenSpec.ofChange wireKnownSpec)) wireKnownCard

/-- THE TIED CARD OF 'waypostlaw11.WireWrites'. -/
def wireWritesCard : Claim7 := { stood := { row := wireWritesRow, standIns := [], harness := (true, "39f3c7a2cf50d3e77c8107290917dd18148e6308a7d65670a87f9a66b56b0eb5"), looks := true }, kinds := [], alts := [], laidByText := true, laidKinds := [.data, .data, .data, .data, .sentinel, .sentinel, .pinned], laidTests := true, laidLooks := .later }
def WireWritesCardSaid : Prop := Claim7.holds Tryz.pinned (.plain (OpenSpec.ofChange wireWritesSpec)) wireWritesCard

/-- THE SECOND FORM's CARD OF 'waypostlaw11.WireBack'. -/
def wireBackUptoCard : Claim7 := { stood := { row := wireBackUptoRow, standIns := [], harness := (true, "39f3c7a2cf50d3e77c8107290917dd18148e6308a7d65670a87f9a66b56b0eb5"), looks := true }, kinds := [], alts := [], laidByText := true, laidKinds := [.data, .data, .data, .data, .sentinel, .sentinel, .pinned], laidTests := true, laidLooks := .later }
def WireBackUptoCardSaid : Prop := Claim7.holds Tryz.pinned (.plain (OpenSpec.upto wireBackSpec)) wireBackUptoCard

/-- THE SECOND FORM's CARD OF 'waypostlaw11.WireCase'. -/
def wireCaseUptoCard : Claim7 := { stood := { row := wireCaseUptoRow, standIns := [], harness := (true, "39f3c7a2cf50d3e77c8107290917dd18148e6308a7d65670a87f9a66b56b0eb5"), looks := true }, kinds := [], alts := [], laidByText := true, laidKinds := [.data, .data, .data, .data, .sentinel, .sentinel, .pinned], laidTests := true, laidLooks := .later }
def WireCaseUptoCardSaid : Prop := Claim7.holds Tryz.pinned (.plain (OpenSpec.upto wireCaseSpec)) wireCaseUptoCard

/-- THE SECOND FORM's CARD OF 'waypostlaw11.WireKnown'. -/
def wireKnownUptoCard : Claim7 := { stood := { row := wireKnownUptoRow, standIns := [], harness := (true, "39f3c7a2cf50d3e77c8107290917dd18148e6308a7d65670a87f9a66b56b0eb5"), looks := true }, kinds := [], alts := [], laidByText := true, laidKinds := [.data, .data, .data, .data, .sentinel, .sentinel, .pinned], laidTests := true, laidLooks := .later }
def WireKnownUptoCardSaid : Prop := Claim7.holds Tryz.pinned (.plain (OpenSpec.upto wireKnownSpec)) wireKnownUptoCard

/-- THE SECOND FORM's CARD OF 'waypostlaw11.WireWrites'. -/
def wireWritesUptoCard : Claim7 := { stood := { row := wireWritesUptoRow, standIns := [], harness := (true, "39f3c7a2cf50d3e77c8107290917dd18148e6308a7d65670a87f9a66b56b0eb5"), looks := true }, kinds := [], alts := [], laidByText := true, laidKinds := [.data, .data, .data, .data, .sentinel, .sentinel, .pinned], laidTests := true, laidLooks := .later }
def WireWritesUptoCardSaid : Prop := Claim7.holds Tryz.pinned (.plain (OpenSpec.upto wireWritesSpec)) wireWritesUptoCard
end Rows
end Go.Proofs.YtencphfhpnljlaaGreatDoor
