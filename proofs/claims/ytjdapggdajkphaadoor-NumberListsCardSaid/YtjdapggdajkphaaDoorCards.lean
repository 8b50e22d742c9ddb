/-
  DERIVED. GIVEN WITH THE SEED: THE CARDS: each row of YtjdapggdajkphaaDoorRows.lean that lists a variable, with what it lists TIED to the program's text (the seventh form; the later family's looks); each row that meets fmt, with fmt's text TOLD by the authors' own Lean function (tested against real Go, not proved from fmt's source: count such statements apart). THE CARD IS WHAT COUNTS. Prove the row's statement (the work); the ties are given (YtjdapggdajkphaaDoorTie.lean); close each card by the builder's one call (the guide's Derived/Test/ToyasCard.lean, 'card_holds'). Laid BY PROGRAM, IN A SANDBOX (cutbox-door.mjs). By AI agents, Wed Nov 11 2026. No macro, syntax, notation, axiom, sorry.
-/
import Derived.Test.YtjdapggdajkphaaDoorRows
import GoSem.ClaimSeven
namespace Go.Proofs.YtjdapggdajkphaaDoor
namespace Rows

/-- THE TIED CARD OF 'waypostlaw03.NumberBack'. -/
def numberBackCard : Claim7 := { stood := { row := numberBackRow, standIns := [], harness := (true, "833bb035516b0fb9576c8c2fe79d3cba93f4a412563e9c5cdb44ba3cbc86b863"), looks := false }, kinds := [], alts := [], laidByText := true, laidKinds := [.data, .data, .data], laidTests := true, laidLooks := .later }
def NumberBackCardSaid : Prop := Claim7.holds Tryd.pinned (.plain (OpenSpec.ofChange numberBackSpec)) numberBackCard

/-- THE TIED CARD OF 'waypostlaw03.NumberZeros'. -/
def numberZerosCard : Claim7 := { stood := { row := numberZerosRow, standIns := [], harness := (true, "833bb035516b0fb9576c8c2fe79d3cba93f4a412563e9c5cdb44ba3cbc86b863"), looks := false }, kinds := [], alts := [], laidByText := true, laidKinds := [.data, .data, .data], laidTests := true, laidLooks := .later }
def NumberZerosCardSaid : Prop := Claim7.holds Tryd.pinned (.plain (OpenSpec.ofChange numberZerosSpec)) numberZerosCard

/-- THE TIED CARD OF 'waypostlaw03.NumberWrites'. -/
def numberWritesCard : Claim7 := { stood := { row := numberWritesRow, standIns := [], harness := (true, "833bb035516b0fb9576c8c2fe79d3cba93f4a412563e9c5cdb44ba3cbc86b863"), looks := false }, kinds := [], alts := [], laidByText := true, laidKinds := [.data, .data, .data], laidTests := true, laidLooks := .later }
def NumberWritesCardSaid : Prop := Claim7.holds Tryd.pinned (.plain (OpenSpec.ofChange numberWritesSpec)) numberWritesCard

/-- THE TIED CARD OF 'waypostlaw03.NumberReads'. -/
def numberReadsCard : Claim7 := { stood := { row := numberReadsRow, standIns := [], harness := (true, "833bb035516b0fb9576c8c2fe79d3cba93f4a412563e9c5cdb44ba3cbc86b863"), looks := false }, kinds := [], alts := [], laidByText := true, laidKinds := [.data, .data, .data, .data, .pinned], laidTests := true, laidLooks := .later }
def NumberReadsCardSaid : Prop := Claim7.holds Tryd.pinned (.plain (OpenSpec.ofChange numberReadsSpec)) numberReadsCard

/-- THE TIED CARD OF 'waypostlaw03.NumberLists'. -/
def numberListsCard : Claim7 := { stood := { row := numberListsRow, standIns := [], harness := (true, "833bb035516b0fb9576c8c2fe79d3cba93f4a412563e9c5cdb44ba3cbc86b863"), looks := false }, kinds := [], alts := [], laidByText := true, laidKinds := [.data, .data, .data, .data, .pinned], laidTests := true, laidLooks := .later }
def NumberListsCardSaid : Prop := Claim7.holds Tryd.pinned (.plain (OpenSpec.ofChange numberListsSpec)) numberListsCard

/-- THE TIED CARD OF 'waypostlaw03.NumberKnown'. -/
def numberKnownCard : Claim7 := { stood := { row := numberKnownRow, standIns := [], harness := (true, "833bb035516b0fb9576c8c2fe79d3cba93f4a412563e9c5cdb44ba3cbc86b863"), looks := false }, kinds := [], alts := [], laidByText := true, laidKinds := [.data, .data, .data, .data, .pinned], laidTests := true, laidLooks := .later }
def NumberKnownCardSaid : Prop := Claim7.holds Tryd.pinned (.plain (OpenSpec.ofChange numberKnownSpec)) numberKnownCard

/-- THE SECOND FORM's CARD OF 'waypostlaw03.NumberBack'. -/
def numberBackUptoCard : Claim7 := { stood := { row := numberBackUptoRow, standIns := [], harness := (true, "833bb035516b0fb9576c8c2fe79d3cba93f4a412563e9c5cdb44ba3cbc86b863"), looks := false }, kinds := [], alts := [], laidByText := true, laidKinds := [.data, .data, .data], laidTests := true, laidLooks := .later }
def NumberBackUptoCardSaid : Prop := Claim7.holds Tryd.pinned (.plain (OpenSpec.upto numberBackSpec)) numberBackUptoCard

/-- THE SECOND FORM's CARD OF 'waypostlaw03.NumberZeros'. -/
def numberZerosUptoCard : Claim7 := { stood := { row := numberZerosUptoRow, standIns := [], harness := (true, "833bb035516b0fb9576c8c2fe79d3cba93f4a412563e9c5cdb44ba3cbc86b863"), looks := false }, kinds := [], alts := [], laidByText := true, laidKinds := [.data, .data, .data], laidTests := true, laidLooks := .later }
def NumberZerosUptoCardSaid : Prop := Claim7.holds Tryd.pinned (.plain (OpenSpec.upto numberZerosSpec)) numberZerosUptoCard

/-- THE SECOND FORM's CARD OF 'waypostlaw03.NumberWrites'. -/
def numberWritesUptoCard : Claim7 := { stood := { row := numberWritesUptoRow, standIns := [], harness := (true, "833bb035516b0fb9576c8c2fe79d3cba93f4a412563e9c5cdb44ba3cbc86b863"), looks := false }, kinds := [], alts := [], laidByText := true, laidKinds := [.data, .data, .data], laidTests := true, laidLooks := .later }
def NumberWritesUptoCardSaid : Prop := Claim7.holds Tryd.pinned (.plain (OpenSpec.upto numberWritesSpec)) numberWritesUptoCard

/-- THE SECOND FORM's CARD OF 'waypostlaw03.NumberReads'. -/
def numberReadsUptoCard : Claim7 := { stood := { row := numberReadsUptoRow, standIns := [], harness := (true, "833bb035516b0fb9576c8c2fe79d3cba93f4a412563e9c5cdb44ba3cbc86b863"), looks := false }, kinds := [], alts := [], laidByText := true, laidKinds := [.data, .data, .data, .data, .pinned], laidTests := true, laidLooks := .later }
def NumberReadsUptoCardSaid : Prop := Claim7.holds Tryd.pinned (.plain (OpenSpec.upto numberReadsSpec)) numberReadsUptoCard

/-- THE SECOND FORM's CARD OF 'waypostlaw03.NumberLists'. -/
def numberListsUptoCard : Claim7 := { stood := { row := numberListsUptoRow, standIns := [], harness := (true, "833bb035516b0fb9576c8c2fe79d3cba93f4a412563e9c5cdb44ba3cbc86b863"), looks := false }, kinds := [], alts := [], laidByText := true, laidKinds := [.data, .data, .data, .data, .pinned], laidTests := true, laidLooks := .later }
def NumberListsUptoCardSaid : Prop := Claim7.holds Tryd.pinned (.plain (OpenSpec.upto numberListsSpec)) numberListsUptoCard

/-- THE SECOND FORM's CARD OF 'waypostlaw03.NumberKnown'. -/
def numberKnownUptoCard : Claim7 := { stood := { row := numberKnownUptoRow, standIns := [], harness := (true, "833bb035516b0fb9576c8c2fe79d3cba93f4a412563e9c5cdb44ba3cbc86b863"), looks := false }, kinds := [], alts := [], laidByText := true, laidKinds := [.data, .data, .data, .data, .pinned], laidTests := true, laidLooks := .later }
def NumberKnownUptoCardSaid : Prop := Claim7.holds Tryd.pinned (.plain (OpenSpec.upto numberKnownSpec)) numberKnownUptoCard
end Rows
end Go.Proofs.YtjdapggdajkphaaDoor
