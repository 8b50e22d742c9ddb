/-
  DERIVED. GIVEN WITH THE SEED: THE CARDS: each row of YtpdohlnobbimaaaDoorRows.lean that lists a variable, with what it lists TIED to the program's text (the seventh form; the later family's looks); each row that meets fmt, with fmt's text TOLD by the authors' own Lean function (tested against real Go, not proved from fmt's source: count such statements apart). THE CARD IS WHAT COUNTS. Prove the row's statement (the work); the ties are given (YtpdohlnobbimaaaDoorTie.lean); close each card by the builder's one call (the guide's Derived/Test/ToyasCard.lean, 'card_holds'). Laid BY PROGRAM, IN A SANDBOX (cutbox-door.mjs). By AI agents, Wed Nov 11 2026. No macro, syntax, notation, axiom, sorry.
-/
import Derived.Test.YtpdohlnobbimaaaDoorRows
import GoSem.ClaimSeven
namespace Go.Proofs.YtpdohlnobbimaaaDoor
namespace Rows

/-- THE TIED CARD OF 'waypostlaw06.FieldBack'. -/
def fieldBackCard : Claim7 := { stood := { row := fieldBackRow, standIns := [], harness := (true, "c941783fbe4b103df1255c5b8c12a425514e8004356cebc0c79fbaf9df257b3a"), looks := true }, kinds := [], alts := [], laidByText := true, laidKinds := [.data, .pinned], laidTests := true, laidLooks := .later }
def FieldBackCardSaid : Prop := Claim7.holds Tryd.pinned (.plain (OpenSpec.ofChange fieldBackSpec)) fieldBackCard

/-- THE TIED CARD OF 'waypostlaw06.FieldDrops'. -/
def fieldDropsCard : Claim7 := { stood := { row := fieldDropsRow, standIns := [], harness := (true, "c941783fbe4b103df1255c5b8c12a425514e8004356cebc0c79fbaf9df257b3a"), looks := true }, kinds := [], alts := [], laidByText := true, laidKinds := [.data, .pinned], laidTests := true, laidLooks := .later }
def FieldDropsCardSaid : Prop := Claim7.holds Tryd.pinned (.plain (OpenSpec.ofChange fieldDropsSpec)) fieldDropsCard

/-- THE TIED CARD OF 'waypostlaw06.FieldPuts'. -/
def fieldPutsCard : Claim7 := { stood := { row := fieldPutsRow, standIns := [], harness := (true, "c941783fbe4b103df1255c5b8c12a425514e8004356cebc0c79fbaf9df257b3a"), looks := true }, kinds := [], alts := [], laidByText := true, laidKinds := [.data, .pinned], laidTests := true, laidLooks := .later }
def FieldPutsCardSaid : Prop := Claim7.holds Tryd.pinned (.plain (OpenSpec.ofChange fieldPutsSpec)) fieldPutsCard

/-- THE TIED CARD OF 'waypostlaw09.FramingBack'. -/
def framingBackCard : Claim7 := { stood := { row := framingBackRow, standIns := [], harness := (true, "c941783fbe4b103df1255c5b8c12a425514e8004356cebc0c79fbaf9df257b3a"), looks := true }, kinds := [], alts := [], laidByText := true, laidKinds := [.data, .data, .data, .data, .sentinel, .sentinel, .pinned], laidTests := true, laidLooks := .later }
def FramingBackCardSaid : Prop := Claim7.holds Tryd.pinned (.plain (OpenSpec.ofChange framingBackSpec)) framingBackCard

/-- THE TIED CARD OF 'waypostlaw09.FramingKnown'. -/
def framingKnownCard : Claim7 := { stood := { row := framingKnownRow, standIns := [], harness := (true, "c941783fbe4b103df1255c5b8c12a425514e8004356cebc0c79fbaf9df257b3a"), looks := true }, kinds := [], alts := [], laidByText := true, laidKinds := [.data, .data, .data, .data, .sentinel, .sentinel, .pinned], laidTests := true, laidLooks := .later }
def FramingKnownCardSaid : Prop := Claim7.holds Tryd.pinned (.plain (OpenSpec.ofChange framingKnownSpec)) framingKnownCard

/-- THE TIED CARD OF 'waypostlaw09.FramingLeft'. -/
def framingLeftCard : Claim7 := { stood := { row := framingLeftRow, standIns := [], harness := (true, "c941783fbe4b103df1255c5b8c12a425514e8004356cebc0c79fbaf9df257b3a"), looks := true }, kinds := [], alts := [], laidByText := true, laidKinds := [.data, .data, .data, .data, .sentinel, .sentinel, .pinned], laidTests := true, laidLooks := .later }
def FramingLeftCardSaid : Prop := Claim7.holds Tryd.pinned (.plain (OpenSpec.ofChange framingLeftSpec)) framingLeftCard

/-- THE TIED CARD OF 'waypostlaw09.FramingOf'. -/
def framingOfCard : Claim7 := { stood := { row := framingOfRow, standIns := [], harness := (true, "c941783fbe4b103df1255c5b8c12a425514e8004356cebc0c79fbaf9df257b3a"), looks := true }, kinds := [], alts := [], laidByText := true, laidKinds := [.data, .data, .data, .data, .sentinel, .sentinel, .pinned], laidTests := true, laidLooks := .later }
def FramingOfCardSaid : Prop := Claim7.holds Tryd.pinned (.plain (OpenSpec.ofChange framingOfSpec)) framingOfCard

/-- THE TIED CARD OF 'waypostlaw09.FramingValid'. -/
def framingValidCard : Claim7 := { stood := { row := framingValidRow, standIns := [], harness := (true, "c941783fbe4b103df1255c5b8c12a425514e8004356cebc0c79fbaf9df257b3a"), looks := true }, kinds := [], alts := [], laidByText := true, laidKinds := [.data, .data, .data, .data, .sentinel, .sentinel, .pinned], laidTests := true, laidLooks := .later }
def FramingValidCardSaid : Prop := Claim7.holds Tryd.pinned (.plain (OpenSpec.ofChange framingValidSpec)) framingValidCard

/-- THE TIED CARD OF 'waypostlaw09.FramingWrites'. -/
def framingWritesCard : Claim7 := { stood := { row := framingWritesRow, standIns := [], harness := (true, "c941783fbe4b103df1255c5b8c12a425514e8004356cebc0c79fbaf9df257b3a"), looks := true }, kinds := [], alts := [], laidByText := true, laidKinds := [.data, .data, .data, .data, .sentinel, .sentinel, .pinned], laidTests := true, laidLooks := .later }
def FramingWritesCardSaid : Prop := Claim7.holds Tryd.pinned (.plain (OpenSpec.ofChange framingWritesSpec)) framingWritesCard

/-- THE SECOND FORM's CARD OF 'waypostlaw06.FieldBack'. -/
def fieldBackUptoCard : Claim7 := { stood := { row := fieldBackUptoRow, standIns := [], harness := (true, "c941783fbe4b103df1255c5b8c12a425514e8004356cebc0c79fbaf9df257b3a"), looks := true }, kinds := [], alts := [], laidByText := true, laidKinds := [.data, .pinned], laidTests := true, laidLooks := .later }
def FieldBackUptoCardSaid : Prop := Claim7.holds Tryd.pinned (.plain (OpenSpec.upto fieldBackSpec)) fieldBackUptoCard

/-- THE SECOND FORM's CARD OF 'waypostlaw06.FieldDrops'. -/
def fieldDropsUptoCard : Claim7 := { stood := { row := fieldDropsUptoRow, standIns := [], harness := (true, "c941783fbe4b103df1255c5b8c12a425514e8004356cebc0c79fbaf9df257b3a"), looks := true }, kinds := [], alts := [], laidByText := true, laidKinds := [.data, .pinned], laidTests := true, laidLooks := .later }
def FieldDropsUptoCardSaid : Prop := Claim7.holds Tryd.pinned (.plain (OpenSpec.upto fieldDropsSpec)) fieldDropsUptoCard

/-- THE SECOND FORM's CARD OF 'waypostlaw06.FieldPuts'. -/
def fieldPutsUptoCard : Claim7 := { stood := { row := fieldPutsUptoRow, standIns := [], harness := (true, "c941783fbe4b103df1255c5b8c12a425514e8004356cebc0c79fbaf9df257b3a"), looks := true }, kinds := [], alts := [], laidByText := true, laidKinds := [.data, .pinned], laidTests := true, laidLooks := .later }
def FieldPutsUptoCardSaid : Prop := Claim7.holds Tryd.pinned (.plain (OpenSpec.upto fieldPutsSpec)) fieldPutsUptoCard

/-- THE SECOND FORM's CARD OF 'waypostlaw09.FramingBack'. -/
def framingBackUptoCard : Claim7 := { stood := { row := framingBackUptoRow, standIns := [], harness := (true, "c941783fbe4b103df1255c5b8c12a425514e8004356cebc0c79fbaf9df257b3a"), looks := true }, kinds := [], alts := [], laidByText := true, laidKinds := [.data, .data, .data, .data, .sentinel, .sentinel, .pinned], laidTests := true, laidLooks := .later }
def FramingBackUptoCardSaid : Prop := Claim7.holds Tryd.pinned (.plain (OpenSpec.upto framingBackSpec)) framingBackUptoCard

/-- THE SECOND FORM's CARD OF 'waypostlaw09.FramingKnown'. -/
def framingKnownUptoCard : Claim7 := { stood := { row := framingKnownUptoRow, standIns := [], harness := (true, "c941783fbe4b103df1255c5b8c12a425514e8004356cebc0c79fbaf9df257b3a"), looks := true }, kinds := [], alts := [], laidByText := true, laidKinds := [.data, .data, .data, .data, .sentinel, .sentinel, .pinned], laidTests := true, laidLooks := .later }
def FramingKnownUptoCardSaid : Prop := Claim7.holds Tryd.pinned (.plain (OpenSpec.upto framingKnownSpec)) framingKnownUptoCard

/-- THE SECOND FORM's CARD OF 'waypostlaw09.FramingLeft'. -/
def framingLeftUptoCard : Claim7 := { stood := { row := framingLeftUptoRow, standIns := [], harness := (true, "c941783fbe4b103df1255c5b8c12a425514e8004356cebc0c79fbaf9df257b3a"), looks := true }, kinds := [], alts := [], laidByText := true, laidKinds := [.data, .data, .data, .data, .sentinel, .sentinel, .pinned], laidTests := true, laidLooks := .later }
def FramingLeftUptoCardSaid : Prop := Claim7.holds Tryd.pinned (.plain (OpenSpec.upto framingLeftSpec)) framingLeftUptoCard

/-- THE SECOND FORM's CARD OF 'waypostlaw09.FramingOf'. -/
def framingOfUptoCard : Claim7 := { stood := { row := framingOfUptoRow, standIns := [], harness := (true, "c941783fbe4b103df1255c5b8c12a425514e8004356cebc0c79fbaf9df257b3a"), looks := true }, kinds := [], alts := [], laidByText := true, laidKinds := [.data, .data, .data, .data, .sentinel, .sentinel, .pinned], laidTests := true, laidLooks := .later }
def FramingOfUptoCardSaid : Prop := Claim7.holds Tryd.pinned (.plain (OpenSpec.upto framingOfSpec)) framingOfUptoCard

/-- THE SECOND FORM's CARD OF 'waypostlaw09.FramingValid'. -/
def framingValidUptoCard : Claim7 := { stood := { row := framingValidUptoRow, standIns := [], harness := (true, "c941783fbe4b103df1255c5b8c12a425514e8004356cebc0c79fbaf9df257b3a"), looks := true }, kinds := [], alts := [], laidByText := true, laidKinds := [.data, .data, .data, .data, .sentinel, .sentinel, .pinned], laidTests := true, laidLooks := .later }
def FramingValidUptoCardSaid : Prop := Claim7.holds Tryd.pinned (.plain (OpenSpec.upto framingValidSpec)) framingValidUptoCard

/-- THE SECOND FORM's CARD OF 'waypostlaw09.FramingWrites'. -/
def framingWritesUptoCard : Claim7 := { stood := { row := framingWritesUptoRow, standIns := [], harness := (true, "c941783fbe4b103df1255c5b8c12a425514e8004356cebc0c79fbaf9df257b3a"), looks := true }, kinds := [], alts := [], laidByText := true, laidKinds := [.data, .data, .data, .data, .sentinel, .sentinel, .pinned], laidTests := true, laidLooks := .later }
def FramingWritesUptoCardSaid : Prop := Claim7.holds Tryd.pinned (.plain (OpenSpec.upto framingWritesSpec)) framingWritesUptoCard
end Rows
end Go.Proofs.YtpdohlnobbimaaaDoor
