/-
  NARROWER THAN 'FOR EVERY INPUT', by the rows' own cells (each row's printed sentence says how): TokenBack: laid · TokenKnown: laid · TokenLists: laid · TokenOnes: laid · TokenSame: laid · TokenTrims: laid · FieldBack: laid · FieldChanges: laid · FieldDrops: laid · FieldKnown: laid · FieldLooks: laid · FieldPuts: laid · PersistAnswers: laid · PersistKeeps: laid · PersistKnown: laid · PersistParts: laid · PersistRuns: laid · PersistSteps: laid.
  DERIVED. THE GIVEN ROWS OF THIS SEAT. 18 by the template 'for every input the law returns true; each argument reads behind the call as it read before'; 0 by the template 'total and deterministic' (their statements: YtepemdmjbfoiaaaDoorTotals.lean).
  GIVEN WITH THE SEED: the statements are not yours to turn. If you find one false, say at which input.
  Laid BY PROGRAM, IN A SANDBOX (cutbox-rows.mjs): the forced cells as the released guide's own fill.sh prints them over the translation d763daac78ce9446… (all of the seat's roots in one cut). By AI agents, Wed Nov 11 2026. No macro, syntax, notation, axiom, sorry.
-/
import Derived.Test.YtepemdmjbfoiaaaDoorChecked
import GoSem.PinnedTables
import GoSem.Claim
import GoSem.ClaimJoined
import GoSem.ClaimMapViews
import Derived.JoinedTies
import Derived.KernelRfl
namespace Go.Proofs.YtepemdmjbfoiaaaDoor
/- THE CELL 'sum', in the pinned program and in every row, IS THE sha256 OF THE DUMP (.gsa) THAT YtepemdmjbfoiaaaDoorProg.lean LOADS. Nothing in Lean hashes anything: it is a label: what it is worth is what the hold of that sum in a sandbox is worth. -/
noncomputable def Tryd.pinned : Pinned := { name := "ytepemdmjbfoiaaadoor", sum := "d763daac78ce944662ea5396e7fa17c131bbbaf723263d522ea9795bd7f21e2d", checked := Tryd.checked }
namespace Rows
def none {H : Type} : Left H := { results := [], args := [] }

/- WHAT THE LISTED PACKAGE-LEVEL VARIABLES READ AS WHEN THE CALL BEGINS. Each datum BY PROGRAM (the guide's laid-datum.mjs) off the statement by which the dump's own 'gosem.cut.vars' lays the variable. In a bare row this is a premise. The card (YtepemdmjbfoiaaaDoorCards.lean) ties it to the program's text. -/
def laid_unicode_utf8_acceptRanges {H : Type} : DataW H := .agg [.agg [.lit (.int .u8 128), .lit (.int .u8 191)], .agg [.lit (.int .u8 160), .lit (.int .u8 191)], .agg [.lit (.int .u8 128), .lit (.int .u8 159)], .agg [.lit (.int .u8 144), .lit (.int .u8 191)], .agg [.lit (.int .u8 128), .lit (.int .u8 143)], .agg [.lit (.int .u8 0), .lit (.int .u8 0)], .agg [.lit (.int .u8 0), .lit (.int .u8 0)], .agg [.lit (.int .u8 0), .lit (.int .u8 0)], .agg [.lit (.int .u8 0), .lit (.int .u8 0)], .agg [.lit (.int .u8 0), .lit (.int .u8 0)], .agg [.lit (.int .u8 0), .lit (.int .u8 0)], .agg [.lit (.int .u8 0), .lit (.int .u8 0)], .agg [.lit (.int .u8 0), .lit (.int .u8 0)], .agg [.lit (.int .u8 0), .lit (.int .u8 0)], .agg [.lit (.int .u8 0), .lit (.int .u8 0)], .agg [.lit (.int .u8 0), .lit (.int .u8 0)]]
/-- One of Go's own tables, pinned by name: the form's constant. -/
def laid_unicode_utf8_first : DataW Unit := Go.Pinned.utf8First

/-- 'waypostlaw05.TokenBack': WHATEVER THE INPUT: true; the input reads as it did. -/
def tokenBackSpec : ChangeSpec := { name := "tokenBack", fn := fun _ => fun
  | [d] => { results := [.lit (.bool true)], args := [d] }
  | _ => none }
def tokenBackRow : OpenClaim := { program := "ytepemdmjbfoiaaadoor", sum := "d763daac78ce944662ea5396e7fa17c131bbbaf723263d522ea9795bd7f21e2d", func := "waypost/waypostlaw05.TokenBack", spec := "tokenBack", inPlace := ["internal/bytealg.IndexByteString", "internal/bytealg.IndexString", "internal/abi.NoEscape", "internal/bytealg.MakeNoZero"], unfollowed := true, recurses := true, named := ["unicode/utf8.first", "unicode/utf8.acceptRanges", "internal/bytealg.MaxLen"], apart := false, laid := [("unicode/utf8.acceptRanges", laid_unicode_utf8_acceptRanges), ("unicode/utf8.first", laid_unicode_utf8_first)] }
def TokenBackSaid : Prop := tokenBackRow.holds Tryd.pinned (OpenSpec.ofChange tokenBackSpec)

/-- ITS FALSE NEIGHBOUR: 'it returns false'. Refute it at one input. -/
def tokenBackWrong : ChangeSpec := { name := "tokenBack", fn := fun _ => fun
  | [d] => { results := [.lit (.bool false)], args := [d] }
  | _ => none }
def TokenBackWrongFalsely : Prop := tokenBackRow.holds Tryd.pinned (OpenSpec.ofChange tokenBackWrong)

/-- 'waypostlaw05.TokenKnown': WHATEVER THE INPUT: true; the input reads as it did. -/
def tokenKnownSpec : ChangeSpec := { name := "tokenKnown", fn := fun _ => fun
  | [] => { results := [.lit (.bool true)], args := [] }
  | _ => none }
def tokenKnownRow : OpenClaim := { program := "ytepemdmjbfoiaaadoor", sum := "d763daac78ce944662ea5396e7fa17c131bbbaf723263d522ea9795bd7f21e2d", func := "waypost/waypostlaw05.TokenKnown", spec := "tokenKnown", inPlace := ["internal/bytealg.IndexByteString", "internal/bytealg.IndexString", "internal/abi.NoEscape", "internal/bytealg.MakeNoZero"], unfollowed := true, recurses := true, named := ["unicode/utf8.first", "unicode/utf8.acceptRanges", "internal/bytealg.MaxLen"], apart := false, laid := [("unicode/utf8.acceptRanges", laid_unicode_utf8_acceptRanges), ("unicode/utf8.first", laid_unicode_utf8_first)] }
def TokenKnownSaid : Prop := tokenKnownRow.holds Tryd.pinned (OpenSpec.ofChange tokenKnownSpec)

/-- ITS FALSE NEIGHBOUR: 'it returns false'. Refute it at one input. -/
def tokenKnownWrong : ChangeSpec := { name := "tokenKnown", fn := fun _ => fun
  | [] => { results := [.lit (.bool false)], args := [] }
  | _ => none }
def TokenKnownWrongFalsely : Prop := tokenKnownRow.holds Tryd.pinned (OpenSpec.ofChange tokenKnownWrong)

/-- 'waypostlaw05.TokenLists': WHATEVER THE INPUT: true; the input reads as it did. -/
def tokenListsSpec : ChangeSpec := { name := "tokenLists", fn := fun _ => fun
  | [d1, d2, d3] => { results := [.lit (.bool true)], args := [d1, d2, d3] }
  | _ => none }
def tokenListsRow : OpenClaim := { program := "ytepemdmjbfoiaaadoor", sum := "d763daac78ce944662ea5396e7fa17c131bbbaf723263d522ea9795bd7f21e2d", func := "waypost/waypostlaw05.TokenLists", spec := "tokenLists", inPlace := ["internal/bytealg.IndexByteString", "internal/bytealg.IndexString", "internal/abi.NoEscape", "internal/bytealg.MakeNoZero"], unfollowed := true, recurses := true, named := ["unicode/utf8.first", "unicode/utf8.acceptRanges", "internal/bytealg.MaxLen"], apart := false, laid := [("unicode/utf8.acceptRanges", laid_unicode_utf8_acceptRanges), ("unicode/utf8.first", laid_unicode_utf8_first)] }
def TokenListsSaid : Prop := tokenListsRow.holds Tryd.pinned (OpenSpec.ofChange tokenListsSpec)

/-- ITS FALSE NEIGHBOUR: 'it returns false'. Refute it at one input. -/
def tokenListsWrong : ChangeSpec := { name := "tokenLists", fn := fun _ => fun
  | [d1, d2, d3] => { results := [.lit (.bool false)], args := [d1, d2, d3] }
  | _ => none }
def TokenListsWrongFalsely : Prop := tokenListsRow.holds Tryd.pinned (OpenSpec.ofChange tokenListsWrong)

/-- 'waypostlaw05.TokenOnes': WHATEVER THE INPUT: true; the input reads as it did. -/
def tokenOnesSpec : ChangeSpec := { name := "tokenOnes", fn := fun _ => fun
  | [d1, d2] => { results := [.lit (.bool true)], args := [d1, d2] }
  | _ => none }
def tokenOnesRow : OpenClaim := { program := "ytepemdmjbfoiaaadoor", sum := "d763daac78ce944662ea5396e7fa17c131bbbaf723263d522ea9795bd7f21e2d", func := "waypost/waypostlaw05.TokenOnes", spec := "tokenOnes", inPlace := ["internal/bytealg.IndexByteString", "internal/bytealg.IndexString"], unfollowed := true, recurses := true, named := ["unicode/utf8.first", "unicode/utf8.acceptRanges", "internal/bytealg.MaxLen"], apart := false, laid := [("unicode/utf8.acceptRanges", laid_unicode_utf8_acceptRanges), ("unicode/utf8.first", laid_unicode_utf8_first)] }
def TokenOnesSaid : Prop := tokenOnesRow.holds Tryd.pinned (OpenSpec.ofChange tokenOnesSpec)

/-- ITS FALSE NEIGHBOUR: 'it returns false'. Refute it at one input. -/
def tokenOnesWrong : ChangeSpec := { name := "tokenOnes", fn := fun _ => fun
  | [d1, d2] => { results := [.lit (.bool false)], args := [d1, d2] }
  | _ => none }
def TokenOnesWrongFalsely : Prop := tokenOnesRow.holds Tryd.pinned (OpenSpec.ofChange tokenOnesWrong)

/-- 'waypostlaw05.TokenSame': WHATEVER THE INPUT: true; the input reads as it did. -/
def tokenSameSpec : ChangeSpec := { name := "tokenSame", fn := fun _ => fun
  | [d1, d2, d3] => { results := [.lit (.bool true)], args := [d1, d2, d3] }
  | _ => none }
def tokenSameRow : OpenClaim := { program := "ytepemdmjbfoiaaadoor", sum := "d763daac78ce944662ea5396e7fa17c131bbbaf723263d522ea9795bd7f21e2d", func := "waypost/waypostlaw05.TokenSame", spec := "tokenSame", inPlace := ["internal/bytealg.IndexByteString", "internal/bytealg.IndexString", "internal/abi.NoEscape", "internal/bytealg.MakeNoZero"], unfollowed := true, recurses := true, named := ["unicode/utf8.first", "unicode/utf8.acceptRanges", "internal/bytealg.MaxLen"], apart := false, laid := [("unicode/utf8.acceptRanges", laid_unicode_utf8_acceptRanges), ("unicode/utf8.first", laid_unicode_utf8_first)] }
def TokenSameSaid : Prop := tokenSameRow.holds Tryd.pinned (OpenSpec.ofChange tokenSameSpec)

/-- ITS FALSE NEIGHBOUR: 'it returns false'. Refute it at one input. -/
def tokenSameWrong : ChangeSpec := { name := "tokenSame", fn := fun _ => fun
  | [d1, d2, d3] => { results := [.lit (.bool false)], args := [d1, d2, d3] }
  | _ => none }
def TokenSameWrongFalsely : Prop := tokenSameRow.holds Tryd.pinned (OpenSpec.ofChange tokenSameWrong)

/-- 'waypostlaw05.TokenTrims': WHATEVER THE INPUT: true; the input reads as it did. -/
def tokenTrimsSpec : ChangeSpec := { name := "tokenTrims", fn := fun _ => fun
  | [d] => { results := [.lit (.bool true)], args := [d] }
  | _ => none }
def tokenTrimsRow : OpenClaim := { program := "ytepemdmjbfoiaaadoor", sum := "d763daac78ce944662ea5396e7fa17c131bbbaf723263d522ea9795bd7f21e2d", func := "waypost/waypostlaw05.TokenTrims", spec := "tokenTrims", inPlace := ["internal/bytealg.IndexByteString", "internal/bytealg.IndexString", "internal/abi.NoEscape", "internal/bytealg.MakeNoZero"], unfollowed := true, recurses := true, named := ["unicode/utf8.first", "unicode/utf8.acceptRanges", "internal/bytealg.MaxLen"], apart := false, laid := [("unicode/utf8.acceptRanges", laid_unicode_utf8_acceptRanges), ("unicode/utf8.first", laid_unicode_utf8_first)] }
def TokenTrimsSaid : Prop := tokenTrimsRow.holds Tryd.pinned (OpenSpec.ofChange tokenTrimsSpec)

/-- ITS FALSE NEIGHBOUR: 'it returns false'. Refute it at one input. -/
def tokenTrimsWrong : ChangeSpec := { name := "tokenTrims", fn := fun _ => fun
  | [d] => { results := [.lit (.bool false)], args := [d] }
  | _ => none }
def TokenTrimsWrongFalsely : Prop := tokenTrimsRow.holds Tryd.pinned (OpenSpec.ofChange tokenTrimsWrong)

/-- 'waypostlaw06.FieldBack': WHATEVER THE INPUT: true; the input reads as it did. -/
def fieldBackSpec : ChangeSpec := { name := "fieldBack", fn := fun _ => fun
  | [d] => { results := [.lit (.bool true)], args := [d] }
  | _ => none }
def fieldBackRow : OpenClaim := { program := "ytepemdmjbfoiaaadoor", sum := "d763daac78ce944662ea5396e7fa17c131bbbaf723263d522ea9795bd7f21e2d", func := "waypost/waypostlaw06.FieldBack", spec := "fieldBack", inPlace := ["internal/bytealg.IndexByteString", "internal/bytealg.IndexString", "internal/abi.NoEscape", "internal/bytealg.MakeNoZero"], named := ["unicode/utf8.first", "unicode/utf8.acceptRanges", "internal/bytealg.MaxLen"], apart := false, laid := [("unicode/utf8.acceptRanges", laid_unicode_utf8_acceptRanges), ("unicode/utf8.first", laid_unicode_utf8_first)] }
def FieldBackSaid : Prop := fieldBackRow.holds Tryd.pinned (OpenSpec.ofChange fieldBackSpec)

/-- ITS FALSE NEIGHBOUR: 'it returns false'. Refute it at one input. -/
def fieldBackWrong : ChangeSpec := { name := "fieldBack", fn := fun _ => fun
  | [d] => { results := [.lit (.bool false)], args := [d] }
  | _ => none }
def FieldBackWrongFalsely : Prop := fieldBackRow.holds Tryd.pinned (OpenSpec.ofChange fieldBackWrong)

/-- 'waypostlaw06.FieldChanges': WHATEVER THE INPUT: true; the input reads as it did. -/
def fieldChangesSpec : ChangeSpec := { name := "fieldChanges", fn := fun _ => fun
  | [d1, d2, d3] => { results := [.lit (.bool true)], args := [d1, d2, d3] }
  | _ => none }
def fieldChangesRow : OpenClaim := { program := "ytepemdmjbfoiaaadoor", sum := "d763daac78ce944662ea5396e7fa17c131bbbaf723263d522ea9795bd7f21e2d", func := "waypost/waypostlaw06.FieldChanges", spec := "fieldChanges", inPlace := ["internal/bytealg.IndexByteString", "internal/bytealg.IndexString", "internal/abi.NoEscape", "internal/bytealg.MakeNoZero"], named := ["unicode/utf8.first", "unicode/utf8.acceptRanges", "internal/bytealg.MaxLen"], apart := false, laid := [("unicode/utf8.acceptRanges", laid_unicode_utf8_acceptRanges), ("unicode/utf8.first", laid_unicode_utf8_first)] }
def FieldChangesSaid : Prop := fieldChangesRow.holds Tryd.pinned (OpenSpec.ofChange fieldChangesSpec)

/-- ITS FALSE NEIGHBOUR: 'it returns false'. Refute it at one input. -/
def fieldChangesWrong : ChangeSpec := { name := "fieldChanges", fn := fun _ => fun
  | [d1, d2, d3] => { results := [.lit (.bool false)], args := [d1, d2, d3] }
  | _ => none }
def FieldChangesWrongFalsely : Prop := fieldChangesRow.holds Tryd.pinned (OpenSpec.ofChange fieldChangesWrong)

/-- 'waypostlaw06.FieldDrops': WHATEVER THE INPUT: true; the input reads as it did. -/
def fieldDropsSpec : ChangeSpec := { name := "fieldDrops", fn := fun _ => fun
  | [d1, d2, d3] => { results := [.lit (.bool true)], args := [d1, d2, d3] }
  | _ => none }
def fieldDropsRow : OpenClaim := { program := "ytepemdmjbfoiaaadoor", sum := "d763daac78ce944662ea5396e7fa17c131bbbaf723263d522ea9795bd7f21e2d", func := "waypost/waypostlaw06.FieldDrops", spec := "fieldDrops", inPlace := ["internal/bytealg.IndexByteString", "internal/bytealg.IndexString", "internal/abi.NoEscape", "internal/bytealg.MakeNoZero"], named := ["unicode/utf8.first", "unicode/utf8.acceptRanges", "internal/bytealg.MaxLen"], apart := false, laid := [("unicode/utf8.acceptRanges", laid_unicode_utf8_acceptRanges), ("unicode/utf8.first", laid_unicode_utf8_first)] }
def FieldDropsSaid : Prop := fieldDropsRow.holds Tryd.pinned (OpenSpec.ofChange fieldDropsSpec)

/-- ITS FALSE NEIGHBOUR: 'it returns false'. Refute it at one input. -/
def fieldDropsWrong : ChangeSpec := { name := "fieldDrops", fn := fun _ => fun
  | [d1, d2, d3] => { results := [.lit (.bool false)], args := [d1, d2, d3] }
  | _ => none }
def FieldDropsWrongFalsely : Prop := fieldDropsRow.holds Tryd.pinned (OpenSpec.ofChange fieldDropsWrong)

/-- 'waypostlaw06.FieldKnown': WHATEVER THE INPUT: true; the input reads as it did. -/
def fieldKnownSpec : ChangeSpec := { name := "fieldKnown", fn := fun _ => fun
  | [] => { results := [.lit (.bool true)], args := [] }
  | _ => none }
def fieldKnownRow : OpenClaim := { program := "ytepemdmjbfoiaaadoor", sum := "d763daac78ce944662ea5396e7fa17c131bbbaf723263d522ea9795bd7f21e2d", func := "waypost/waypostlaw06.FieldKnown", spec := "fieldKnown", inPlace := ["internal/bytealg.IndexByteString", "internal/bytealg.IndexString", "internal/abi.NoEscape", "internal/bytealg.MakeNoZero"], named := ["unicode/utf8.first", "unicode/utf8.acceptRanges", "internal/bytealg.MaxLen"], apart := false, laid := [("unicode/utf8.acceptRanges", laid_unicode_utf8_acceptRanges), ("unicode/utf8.first", laid_unicode_utf8_first)] }
def FieldKnownSaid : Prop := fieldKnownRow.holds Tryd.pinned (OpenSpec.ofChange fieldKnownSpec)

/-- ITS FALSE NEIGHBOUR: 'it returns false'. Refute it at one input. -/
def fieldKnownWrong : ChangeSpec := { name := "fieldKnown", fn := fun _ => fun
  | [] => { results := [.lit (.bool false)], args := [] }
  | _ => none }
def FieldKnownWrongFalsely : Prop := fieldKnownRow.holds Tryd.pinned (OpenSpec.ofChange fieldKnownWrong)

/-- 'waypostlaw06.FieldLooks': WHATEVER THE INPUT: true; the input reads as it did. -/
def fieldLooksSpec : ChangeSpec := { name := "fieldLooks", fn := fun _ => fun
  | [d1, d2] => { results := [.lit (.bool true)], args := [d1, d2] }
  | _ => none }
def fieldLooksRow : OpenClaim := { program := "ytepemdmjbfoiaaadoor", sum := "d763daac78ce944662ea5396e7fa17c131bbbaf723263d522ea9795bd7f21e2d", func := "waypost/waypostlaw06.FieldLooks", spec := "fieldLooks", inPlace := ["internal/bytealg.IndexByteString", "internal/bytealg.IndexString", "internal/abi.NoEscape", "internal/bytealg.MakeNoZero"], named := ["unicode/utf8.first", "unicode/utf8.acceptRanges", "internal/bytealg.MaxLen"], apart := false, laid := [("unicode/utf8.acceptRanges", laid_unicode_utf8_acceptRanges), ("unicode/utf8.first", laid_unicode_utf8_first)] }
def FieldLooksSaid : Prop := fieldLooksRow.holds Tryd.pinned (OpenSpec.ofChange fieldLooksSpec)

/-- ITS FALSE NEIGHBOUR: 'it returns false'. Refute it at one input. -/
def fieldLooksWrong : ChangeSpec := { name := "fieldLooks", fn := fun _ => fun
  | [d1, d2] => { results := [.lit (.bool false)], args := [d1, d2] }
  | _ => none }
def FieldLooksWrongFalsely : Prop := fieldLooksRow.holds Tryd.pinned (OpenSpec.ofChange fieldLooksWrong)

/-- 'waypostlaw06.FieldPuts': WHATEVER THE INPUT: true; the input reads as it did. -/
def fieldPutsSpec : ChangeSpec := { name := "fieldPuts", fn := fun _ => fun
  | [d1, d2] => { results := [.lit (.bool true)], args := [d1, d2] }
  | _ => none }
def fieldPutsRow : OpenClaim := { program := "ytepemdmjbfoiaaadoor", sum := "d763daac78ce944662ea5396e7fa17c131bbbaf723263d522ea9795bd7f21e2d", func := "waypost/waypostlaw06.FieldPuts", spec := "fieldPuts", inPlace := ["internal/bytealg.IndexByteString", "internal/bytealg.IndexString", "internal/abi.NoEscape", "internal/bytealg.MakeNoZero"], named := ["unicode/utf8.first", "unicode/utf8.acceptRanges", "internal/bytealg.MaxLen"], apart := false, laid := [("unicode/utf8.acceptRanges", laid_unicode_utf8_acceptRanges), ("unicode/utf8.first", laid_unicode_utf8_first)] }
def FieldPutsSaid : Prop := fieldPutsRow.holds Tryd.pinned (OpenSpec.ofChange fieldPutsSpec)

/-- ITS FALSE NEIGHBOUR: 'it returns false'. Refute it at one input. -/
def fieldPutsWrong : ChangeSpec := { name := "fieldPuts", fn := fun _ => fun
  | [d1, d2] => { results := [.lit (.bool false)], args := [d1, d2] }
  | _ => none }
def FieldPutsWrongFalsely : Prop := fieldPutsRow.holds Tryd.pinned (OpenSpec.ofChange fieldPutsWrong)

/-- 'waypostlaw13.PersistAnswers': WHATEVER THE INPUT: true; the input reads as it did. -/
def persistAnswersSpec : ChangeSpec := { name := "persistAnswers", fn := fun _ => fun
  | [d] => { results := [.lit (.bool true)], args := [d] }
  | _ => none }
def persistAnswersRow : OpenClaim := { program := "ytepemdmjbfoiaaadoor", sum := "d763daac78ce944662ea5396e7fa17c131bbbaf723263d522ea9795bd7f21e2d", func := "waypost/waypostlaw13.PersistAnswers", spec := "persistAnswers", inPlace := ["internal/bytealg.IndexByteString", "internal/bytealg.IndexString"], unfollowed := true, recurses := true, named := ["unicode/utf8.first", "unicode/utf8.acceptRanges", "internal/bytealg.MaxLen"], apart := false, laid := [("unicode/utf8.acceptRanges", laid_unicode_utf8_acceptRanges), ("unicode/utf8.first", laid_unicode_utf8_first)] }
def PersistAnswersSaid : Prop := persistAnswersRow.holds Tryd.pinned (OpenSpec.ofChange persistAnswersSpec)

/-- ITS FALSE NEIGHBOUR: 'it returns false'. Refute it at one input. -/
def persistAnswersWrong : ChangeSpec := { name := "persistAnswers", fn := fun _ => fun
  | [d] => { results := [.lit (.bool false)], args := [d] }
  | _ => none }
def PersistAnswersWrongFalsely : Prop := persistAnswersRow.holds Tryd.pinned (OpenSpec.ofChange persistAnswersWrong)

/-- 'waypostlaw13.PersistKeeps': WHATEVER THE INPUT: true; the input reads as it did. -/
def persistKeepsSpec : ChangeSpec := { name := "persistKeeps", fn := fun _ => fun
  | [d1, d2] => { results := [.lit (.bool true)], args := [d1, d2] }
  | _ => none }
def persistKeepsRow : OpenClaim := { program := "ytepemdmjbfoiaaadoor", sum := "d763daac78ce944662ea5396e7fa17c131bbbaf723263d522ea9795bd7f21e2d", func := "waypost/waypostlaw13.PersistKeeps", spec := "persistKeeps", inPlace := ["internal/bytealg.IndexByteString", "internal/bytealg.IndexString"], unfollowed := true, recurses := true, named := ["unicode/utf8.first", "unicode/utf8.acceptRanges", "internal/bytealg.MaxLen"], apart := false, laid := [("unicode/utf8.acceptRanges", laid_unicode_utf8_acceptRanges), ("unicode/utf8.first", laid_unicode_utf8_first)] }
def PersistKeepsSaid : Prop := persistKeepsRow.holds Tryd.pinned (OpenSpec.ofChange persistKeepsSpec)

/-- ITS FALSE NEIGHBOUR: 'it returns false'. Refute it at one input. -/
def persistKeepsWrong : ChangeSpec := { name := "persistKeeps", fn := fun _ => fun
  | [d1, d2] => { results := [.lit (.bool false)], args := [d1, d2] }
  | _ => none }
def PersistKeepsWrongFalsely : Prop := persistKeepsRow.holds Tryd.pinned (OpenSpec.ofChange persistKeepsWrong)

/-- 'waypostlaw13.PersistKnown': WHATEVER THE INPUT: true; the input reads as it did. -/
def persistKnownSpec : ChangeSpec := { name := "persistKnown", fn := fun _ => fun
  | [] => { results := [.lit (.bool true)], args := [] }
  | _ => none }
def persistKnownRow : OpenClaim := { program := "ytepemdmjbfoiaaadoor", sum := "d763daac78ce944662ea5396e7fa17c131bbbaf723263d522ea9795bd7f21e2d", func := "waypost/waypostlaw13.PersistKnown", spec := "persistKnown", inPlace := ["internal/bytealg.IndexByteString", "internal/bytealg.IndexString"], unfollowed := true, recurses := true, named := ["unicode/utf8.first", "unicode/utf8.acceptRanges", "internal/bytealg.MaxLen"], apart := false, laid := [("unicode/utf8.acceptRanges", laid_unicode_utf8_acceptRanges), ("unicode/utf8.first", laid_unicode_utf8_first)] }
def PersistKnownSaid : Prop := persistKnownRow.holds Tryd.pinned (OpenSpec.ofChange persistKnownSpec)

/-- ITS FALSE NEIGHBOUR: 'it returns false'. Refute it at one input. -/
def persistKnownWrong : ChangeSpec := { name := "persistKnown", fn := fun _ => fun
  | [] => { results := [.lit (.bool false)], args := [] }
  | _ => none }
def PersistKnownWrongFalsely : Prop := persistKnownRow.holds Tryd.pinned (OpenSpec.ofChange persistKnownWrong)

/-- 'waypostlaw13.PersistParts': WHATEVER THE INPUT: true; the input reads as it did. -/
def persistPartsSpec : ChangeSpec := { name := "persistParts", fn := fun _ => fun
  | [d1, d2, d3] => { results := [.lit (.bool true)], args := [d1, d2, d3] }
  | _ => none }
def persistPartsRow : OpenClaim := { program := "ytepemdmjbfoiaaadoor", sum := "d763daac78ce944662ea5396e7fa17c131bbbaf723263d522ea9795bd7f21e2d", func := "waypost/waypostlaw13.PersistParts", spec := "persistParts", inPlace := ["internal/bytealg.IndexByteString", "internal/bytealg.IndexString"], unfollowed := true, recurses := true, named := ["unicode/utf8.first", "unicode/utf8.acceptRanges", "internal/bytealg.MaxLen"], apart := false, laid := [("unicode/utf8.acceptRanges", laid_unicode_utf8_acceptRanges), ("unicode/utf8.first", laid_unicode_utf8_first)] }
def PersistPartsSaid : Prop := persistPartsRow.holds Tryd.pinned (OpenSpec.ofChange persistPartsSpec)

/-- ITS FALSE NEIGHBOUR: 'it returns false'. Refute it at one input. -/
def persistPartsWrong : ChangeSpec := { name := "persistParts", fn := fun _ => fun
  | [d1, d2, d3] => { results := [.lit (.bool false)], args := [d1, d2, d3] }
  | _ => none }
def PersistPartsWrongFalsely : Prop := persistPartsRow.holds Tryd.pinned (OpenSpec.ofChange persistPartsWrong)

/-- 'waypostlaw13.PersistRuns': WHATEVER THE INPUT: true; the input reads as it did. -/
def persistRunsSpec : ChangeSpec := { name := "persistRuns", fn := fun _ => fun
  | [d1, d2, d3] => { results := [.lit (.bool true)], args := [d1, d2, d3] }
  | _ => none }
def persistRunsRow : OpenClaim := { program := "ytepemdmjbfoiaaadoor", sum := "d763daac78ce944662ea5396e7fa17c131bbbaf723263d522ea9795bd7f21e2d", func := "waypost/waypostlaw13.PersistRuns", spec := "persistRuns", inPlace := ["internal/bytealg.IndexByteString", "internal/bytealg.IndexString"], unfollowed := true, recurses := true, named := ["unicode/utf8.first", "unicode/utf8.acceptRanges", "internal/bytealg.MaxLen"], apart := false, laid := [("unicode/utf8.acceptRanges", laid_unicode_utf8_acceptRanges), ("unicode/utf8.first", laid_unicode_utf8_first)] }
def PersistRunsSaid : Prop := persistRunsRow.holds Tryd.pinned (OpenSpec.ofChange persistRunsSpec)

/-- ITS FALSE NEIGHBOUR: 'it returns false'. Refute it at one input. -/
def persistRunsWrong : ChangeSpec := { name := "persistRuns", fn := fun _ => fun
  | [d1, d2, d3] => { results := [.lit (.bool false)], args := [d1, d2, d3] }
  | _ => none }
def PersistRunsWrongFalsely : Prop := persistRunsRow.holds Tryd.pinned (OpenSpec.ofChange persistRunsWrong)

/-- 'waypostlaw13.PersistSteps': WHATEVER THE INPUT: true; the input reads as it did. -/
def persistStepsSpec : ChangeSpec := { name := "persistSteps", fn := fun _ => fun
  | [d1, d2] => { results := [.lit (.bool true)], args := [d1, d2] }
  | _ => none }
def persistStepsRow : OpenClaim := { program := "ytepemdmjbfoiaaadoor", sum := "d763daac78ce944662ea5396e7fa17c131bbbaf723263d522ea9795bd7f21e2d", func := "waypost/waypostlaw13.PersistSteps", spec := "persistSteps", inPlace := ["internal/bytealg.IndexByteString", "internal/bytealg.IndexString"], unfollowed := true, recurses := true, named := ["unicode/utf8.first", "unicode/utf8.acceptRanges", "internal/bytealg.MaxLen"], apart := false, laid := [("unicode/utf8.acceptRanges", laid_unicode_utf8_acceptRanges), ("unicode/utf8.first", laid_unicode_utf8_first)] }
def PersistStepsSaid : Prop := persistStepsRow.holds Tryd.pinned (OpenSpec.ofChange persistStepsSpec)

/-- ITS FALSE NEIGHBOUR: 'it returns false'. Refute it at one input. -/
def persistStepsWrong : ChangeSpec := { name := "persistSteps", fn := fun _ => fun
  | [d1, d2] => { results := [.lit (.bool false)], args := [d1, d2] }
  | _ => none }
def PersistStepsWrongFalsely : Prop := persistStepsRow.holds Tryd.pinned (OpenSpec.ofChange persistStepsWrong)

/- THE SECOND FORM. 'bulk': how many values and letters a reading holds, each counted each time it is reached (what is shared counts as often as it is met; a slice's spare places count too). A statement '..UptoSaid' is the law's where the arguments, and the package variables that the reading takes, are together of bulk at most 1048576: NARROWER than '..Said'. Prove '..Said' where nothing that the law and all that it calls make is longer than what came in: it says more and counts as full. Else prove '..UptoSaid'. A law counts once. -/
mutual
def uptoBulk {H : Type} : DataW H → Nat
  | .lit (.string bytes) => bytes.length + 1
  | .lit _ => 1
  | .nil => 1
  | .ptr d => uptoBulk d + 1
  | .slice elems spare => uptoBulkAll elems + uptoBulkAll spare + 1
  | .agg parts => uptoBulkAll parts + 1
  | .iface _ d => uptoBulk d + 1
  | .map entries => uptoBulkEntries entries + 1
  | .held _ => 1
def uptoBulkAll {H : Type} : List (DataW H) → Nat
  | [] => 0
  | d :: r => uptoBulk d + uptoBulkAll r
def uptoBulkEntries {H : Type} : List (Lit × DataW H) → Nat
  | [] => 0
  | x :: r => uptoBulkEntry x + uptoBulkEntries r
def uptoBulkEntry {H : Type} : Lit × DataW H → Nat
  | (.string bytes, d) => bytes.length + uptoBulk d + 1
  | (_, d) => uptoBulk d + 1
 end
def uptoSmall : (H : Type) → List (DataW H) → Bool := fun _ ds => decide (uptoBulkAll ds ≤ 1048576)
def OpenSpec.upto (s : _root_.Go.ChangeSpec) : _root_.Go.OpenSpec := { _root_.Go.OpenSpec.ofChange s with cond := some uptoSmall }

/-- 'waypostlaw05.TokenBack', WHERE WHAT IT READS IS OF BULK AT MOST 1048576: true; the input reads as it did. -/
def tokenBackUptoRow : OpenClaim := { program := "ytepemdmjbfoiaaadoor", sum := "d763daac78ce944662ea5396e7fa17c131bbbaf723263d522ea9795bd7f21e2d", func := "waypost/waypostlaw05.TokenBack", spec := "tokenBack", inPlace := ["internal/bytealg.IndexByteString", "internal/bytealg.IndexString", "internal/abi.NoEscape", "internal/bytealg.MakeNoZero"], unfollowed := true, recurses := true, named := ["unicode/utf8.first", "unicode/utf8.acceptRanges", "internal/bytealg.MaxLen"], apart := false, laid := [("unicode/utf8.acceptRanges", laid_unicode_utf8_acceptRanges), ("unicode/utf8.first", laid_unicode_utf8_first)], narrowed := true }
def TokenBackUptoSaid : Prop := tokenBackUptoRow.holds Tryd.pinned (OpenSpec.upto tokenBackSpec)

/-- 'waypostlaw05.TokenKnown', WHERE WHAT IT READS IS OF BULK AT MOST 1048576: true; the input reads as it did. -/
def tokenKnownUptoRow : OpenClaim := { program := "ytepemdmjbfoiaaadoor", sum := "d763daac78ce944662ea5396e7fa17c131bbbaf723263d522ea9795bd7f21e2d", func := "waypost/waypostlaw05.TokenKnown", spec := "tokenKnown", inPlace := ["internal/bytealg.IndexByteString", "internal/bytealg.IndexString", "internal/abi.NoEscape", "internal/bytealg.MakeNoZero"], unfollowed := true, recurses := true, named := ["unicode/utf8.first", "unicode/utf8.acceptRanges", "internal/bytealg.MaxLen"], apart := false, laid := [("unicode/utf8.acceptRanges", laid_unicode_utf8_acceptRanges), ("unicode/utf8.first", laid_unicode_utf8_first)], narrowed := true }
def TokenKnownUptoSaid : Prop := tokenKnownUptoRow.holds Tryd.pinned (OpenSpec.upto tokenKnownSpec)

/-- 'waypostlaw05.TokenLists', WHERE WHAT IT READS IS OF BULK AT MOST 1048576: true; the input reads as it did. -/
def tokenListsUptoRow : OpenClaim := { program := "ytepemdmjbfoiaaadoor", sum := "d763daac78ce944662ea5396e7fa17c131bbbaf723263d522ea9795bd7f21e2d", func := "waypost/waypostlaw05.TokenLists", spec := "tokenLists", inPlace := ["internal/bytealg.IndexByteString", "internal/bytealg.IndexString", "internal/abi.NoEscape", "internal/bytealg.MakeNoZero"], unfollowed := true, recurses := true, named := ["unicode/utf8.first", "unicode/utf8.acceptRanges", "internal/bytealg.MaxLen"], apart := false, laid := [("unicode/utf8.acceptRanges", laid_unicode_utf8_acceptRanges), ("unicode/utf8.first", laid_unicode_utf8_first)], narrowed := true }
def TokenListsUptoSaid : Prop := tokenListsUptoRow.holds Tryd.pinned (OpenSpec.upto tokenListsSpec)

/-- 'waypostlaw05.TokenOnes', WHERE WHAT IT READS IS OF BULK AT MOST 1048576: true; the input reads as it did. -/
def tokenOnesUptoRow : OpenClaim := { program := "ytepemdmjbfoiaaadoor", sum := "d763daac78ce944662ea5396e7fa17c131bbbaf723263d522ea9795bd7f21e2d", func := "waypost/waypostlaw05.TokenOnes", spec := "tokenOnes", inPlace := ["internal/bytealg.IndexByteString", "internal/bytealg.IndexString"], unfollowed := true, recurses := true, named := ["unicode/utf8.first", "unicode/utf8.acceptRanges", "internal/bytealg.MaxLen"], apart := false, laid := [("unicode/utf8.acceptRanges", laid_unicode_utf8_acceptRanges), ("unicode/utf8.first", laid_unicode_utf8_first)], narrowed := true }
def TokenOnesUptoSaid : Prop := tokenOnesUptoRow.holds Tryd.pinned (OpenSpec.upto tokenOnesSpec)

/-- 'waypostlaw05.TokenSame', WHERE WHAT IT READS IS OF BULK AT MOST 1048576: true; the input reads as it did. -/
def tokenSameUptoRow : OpenClaim := { program := "ytepemdmjbfoiaaadoor", sum := "d763daac78ce944662ea5396e7fa17c131bbbaf723263d522ea9795bd7f21e2d", func := "waypost/waypostlaw05.TokenSame", spec := "tokenSame", inPlace := ["internal/bytealg.IndexByteString", "internal/bytealg.IndexString", "internal/abi.NoEscape", "internal/bytealg.MakeNoZero"], unfollowed := true, recurses := true, named := ["unicode/utf8.first", "unicode/utf8.acceptRanges", "internal/bytealg.MaxLen"], apart := false, laid := [("unicode/utf8.acceptRanges", laid_unicode_utf8_acceptRanges), ("unicode/utf8.first", laid_unicode_utf8_first)], narrowed := true }
def TokenSameUptoSaid : Prop := tokenSameUptoRow.holds Tryd.pinned (OpenSpec.upto tokenSameSpec)

/-- 'waypostlaw05.TokenTrims', WHERE WHAT IT READS IS OF BULK AT MOST 1048576: true; the input reads as it did. -/
def tokenTrimsUptoRow : OpenClaim := { program := "ytepemdmjbfoiaaadoor", sum := "d763daac78ce944662ea5396e7fa17c131bbbaf723263d522ea9795bd7f21e2d", func := "waypost/waypostlaw05.TokenTrims", spec := "tokenTrims", inPlace := ["internal/bytealg.IndexByteString", "internal/bytealg.IndexString", "internal/abi.NoEscape", "internal/bytealg.MakeNoZero"], unfollowed := true, recurses := true, named := ["unicode/utf8.first", "unicode/utf8.acceptRanges", "internal/bytealg.MaxLen"], apart := false, laid := [("unicode/utf8.acceptRanges", laid_unicode_utf8_acceptRanges), ("unicode/utf8.first", laid_unicode_utf8_first)], narrowed := true }
def TokenTrimsUptoSaid : Prop := tokenTrimsUptoRow.holds Tryd.pinned (OpenSpec.upto tokenTrimsSpec)

/-- 'waypostlaw06.FieldBack', WHERE WHAT IT READS IS OF BULK AT MOST 1048576: true; the input reads as it did. -/
def fieldBackUptoRow : OpenClaim := { program := "ytepemdmjbfoiaaadoor", sum := "d763daac78ce944662ea5396e7fa17c131bbbaf723263d522ea9795bd7f21e2d", func := "waypost/waypostlaw06.FieldBack", spec := "fieldBack", inPlace := ["internal/bytealg.IndexByteString", "internal/bytealg.IndexString", "internal/abi.NoEscape", "internal/bytealg.MakeNoZero"], named := ["unicode/utf8.first", "unicode/utf8.acceptRanges", "internal/bytealg.MaxLen"], apart := false, laid := [("unicode/utf8.acceptRanges", laid_unicode_utf8_acceptRanges), ("unicode/utf8.first", laid_unicode_utf8_first)], narrowed := true }
def FieldBackUptoSaid : Prop := fieldBackUptoRow.holds Tryd.pinned (OpenSpec.upto fieldBackSpec)

/-- 'waypostlaw06.FieldChanges', WHERE WHAT IT READS IS OF BULK AT MOST 1048576: true; the input reads as it did. -/
def fieldChangesUptoRow : OpenClaim := { program := "ytepemdmjbfoiaaadoor", sum := "d763daac78ce944662ea5396e7fa17c131bbbaf723263d522ea9795bd7f21e2d", func := "waypost/waypostlaw06.FieldChanges", spec := "fieldChanges", inPlace := ["internal/bytealg.IndexByteString", "internal/bytealg.IndexString", "internal/abi.NoEscape", "internal/bytealg.MakeNoZero"], named := ["unicode/utf8.first", "unicode/utf8.acceptRanges", "internal/bytealg.MaxLen"], apart := false, laid := [("unicode/utf8.acceptRanges", laid_unicode_utf8_acceptRanges), ("unicode/utf8.first", laid_unicode_utf8_first)], narrowed := true }
def FieldChangesUptoSaid : Prop := fieldChangesUptoRow.holds Tryd.pinned (OpenSpec.upto fieldChangesSpec)

/-- 'waypostlaw06.FieldDrops', WHERE WHAT IT READS IS OF BULK AT MOST 1048576: true; the input reads as it did. -/
def fieldDropsUptoRow : OpenClaim := { program := "ytepemdmjbfoiaaadoor", sum := "d763daac78ce944662ea5396e7fa17c131bbbaf723263d522ea9795bd7f21e2d", func := "waypost/waypostlaw06.FieldDrops", spec := "fieldDrops", inPlace := ["internal/bytealg.IndexByteString", "internal/bytealg.IndexString", "internal/abi.NoEscape", "internal/bytealg.MakeNoZero"], named := ["unicode/utf8.first", "unicode/utf8.acceptRanges", "internal/bytealg.MaxLen"], apart := false, laid := [("unicode/utf8.acceptRanges", laid_unicode_utf8_acceptRanges), ("unicode/utf8.first", laid_unicode_utf8_first)], narrowed := true }
def FieldDropsUptoSaid : Prop := fieldDropsUptoRow.holds Tryd.pinned (OpenSpec.upto fieldDropsSpec)

/-- 'waypostlaw06.FieldKnown', WHERE WHAT IT READS IS OF BULK AT MOST 1048576: true; the input reads as it did. -/
def fieldKnownUptoRow : OpenClaim := { program := "ytepemdmjbfoiaaadoor", sum := "d763daac78ce944662ea5396e7fa17c131bbbaf723263d522ea9795bd7f21e2d", func := "waypost/waypostlaw06.FieldKnown", spec := "fieldKnown", inPlace := ["internal/bytealg.IndexByteString", "internal/bytealg.IndexString", "internal/abi.NoEscape", "internal/bytealg.MakeNoZero"], named := ["unicode/utf8.first", "unicode/utf8.acceptRanges", "internal/bytealg.MaxLen"], apart := false, laid := [("unicode/utf8.acceptRanges", laid_unicode_utf8_acceptRanges), ("unicode/utf8.first", laid_unicode_utf8_first)], narrowed := true }
def FieldKnownUptoSaid : Prop := fieldKnownUptoRow.holds Tryd.pinned (OpenSpec.upto fieldKnownSpec)

/-- 'waypostlaw06.FieldLooks', WHERE WHAT IT READS IS OF BULK AT MOST 1048576: true; the input reads as it did. -/
def fieldLooksUptoRow : OpenClaim := { program := "ytepemdmjbfoiaaadoor", sum := "d763daac78ce944662ea5396e7fa17c131bbbaf723263d522ea9795bd7f21e2d", func := "waypost/waypostlaw06.FieldLooks", spec := "fieldLooks", inPlace := ["internal/bytealg.IndexByteString", "internal/bytealg.IndexString", "internal/abi.NoEscape", "internal/bytealg.MakeNoZero"], named := ["unicode/utf8.first", "unicode/utf8.acceptRanges", "internal/bytealg.MaxLen"], apart := false, laid := [("unicode/utf8.acceptRanges", laid_unicode_utf8_acceptRanges), ("unicode/utf8.first", laid_unicode_utf8_first)], narrowed := true }
def FieldLooksUptoSaid : Prop := fieldLooksUptoRow.holds Tryd.pinned (OpenSpec.upto fieldLooksSpec)

/-- 'waypostlaw06.FieldPuts', WHERE WHAT IT READS IS OF BULK AT MOST 1048576: true; the input reads as it did. -/
def fieldPutsUptoRow : OpenClaim := { program := "ytepemdmjbfoiaaadoor", sum := "d763daac78ce944662ea5396e7fa17c131bbbaf723263d522ea9795bd7f21e2d", func := "waypost/waypostlaw06.FieldPuts", spec := "fieldPuts", inPlace := ["internal/bytealg.IndexByteString", "internal/bytealg.IndexString", "internal/abi.NoEscape", "internal/bytealg.MakeNoZero"], named := ["unicode/utf8.first", "unicode/utf8.acceptRanges", "internal/bytealg.MaxLen"], apart := false, laid := [("unicode/utf8.acceptRanges", laid_unicode_utf8_acceptRanges), ("unicode/utf8.first", laid_unicode_utf8_first)], narrowed := true }
def FieldPutsUptoSaid : Prop := fieldPutsUptoRow.holds Tryd.pinned (OpenSpec.upto fieldPutsSpec)

/-- 'waypostlaw13.PersistAnswers', WHERE WHAT IT READS IS OF BULK AT MOST 1048576: true; the input reads as it did. -/
def persistAnswersUptoRow : OpenClaim := { program := "ytepemdmjbfoiaaadoor", sum := "d763daac78ce944662ea5396e7fa17c131bbbaf723263d522ea9795bd7f21e2d", func := "waypost/waypostlaw13.PersistAnswers", spec := "persistAnswers", inPlace := ["internal/bytealg.IndexByteString", "internal/bytealg.IndexString"], unfollowed := true, recurses := true, named := ["unicode/utf8.first", "unicode/utf8.acceptRanges", "internal/bytealg.MaxLen"], apart := false, laid := [("unicode/utf8.acceptRanges", laid_unicode_utf8_acceptRanges), ("unicode/utf8.first", laid_unicode_utf8_first)], narrowed := true }
def PersistAnswersUptoSaid : Prop := persistAnswersUptoRow.holds Tryd.pinned (OpenSpec.upto persistAnswersSpec)

/-- 'waypostlaw13.PersistKeeps', WHERE WHAT IT READS IS OF BULK AT MOST 1048576: true; the input reads as it did. -/
def persistKeepsUptoRow : OpenClaim := { program := "ytepemdmjbfoiaaadoor", sum := "d763daac78ce944662ea5396e7fa17c131bbbaf723263d522ea9795bd7f21e2d", func := "waypost/waypostlaw13.PersistKeeps", spec := "persistKeeps", inPlace := ["internal/bytealg.IndexByteString", "internal/bytealg.IndexString"], unfollowed := true, recurses := true, named := ["unicode/utf8.first", "unicode/utf8.acceptRanges", "internal/bytealg.MaxLen"], apart := false, laid := [("unicode/utf8.acceptRanges", laid_unicode_utf8_acceptRanges), ("unicode/utf8.first", laid_unicode_utf8_first)], narrowed := true }
def PersistKeepsUptoSaid : Prop := persistKeepsUptoRow.holds Tryd.pinned (OpenSpec.upto persistKeepsSpec)

/-- 'waypostlaw13.PersistKnown', WHERE WHAT IT READS IS OF BULK AT MOST 1048576: true; the input reads as it did. -/
def persistKnownUptoRow : OpenClaim := { program := "ytepemdmjbfoiaaadoor", sum := "d763daac78ce944662ea5396e7fa17c131bbbaf723263d522ea9795bd7f21e2d", func := "waypost/waypostlaw13.PersistKnown", spec := "persistKnown", inPlace := ["internal/bytealg.IndexByteString", "internal/bytealg.IndexString"], unfollowed := true, recurses := true, named := ["unicode/utf8.first", "unicode/utf8.acceptRanges", "internal/bytealg.MaxLen"], apart := false, laid := [("unicode/utf8.acceptRanges", laid_unicode_utf8_acceptRanges), ("unicode/utf8.first", laid_unicode_utf8_first)], narrowed := true }
def PersistKnownUptoSaid : Prop := persistKnownUptoRow.holds Tryd.pinned (OpenSpec.upto persistKnownSpec)

/-- 'waypostlaw13.PersistParts', WHERE WHAT IT READS IS OF BULK AT MOST 1048576: true; the input reads as it did. -/
def persistPartsUptoRow : OpenClaim := { program := "ytepemdmjbfoiaaadoor", sum := "d763daac78ce944662ea5396e7fa17c131bbbaf723263d522ea9795bd7f21e2d", func := "waypost/waypostlaw13.PersistParts", spec := "persistParts", inPlace := ["internal/bytealg.IndexByteString", "internal/bytealg.IndexString"], unfollowed := true, recurses := true, named := ["unicode/utf8.first", "unicode/utf8.acceptRanges", "internal/bytealg.MaxLen"], apart := false, laid := [("unicode/utf8.acceptRanges", laid_unicode_utf8_acceptRanges), ("unicode/utf8.first", laid_unicode_utf8_first)], narrowed := true }
def PersistPartsUptoSaid : Prop := persistPartsUptoRow.holds Tryd.pinned (OpenSpec.upto persistPartsSpec)

/-- 'waypostlaw13.PersistRuns', WHERE WHAT IT READS IS OF BULK AT MOST 1048576: true; the input reads as it did. -/
def persistRunsUptoRow : OpenClaim := { program := "ytepemdmjbfoiaaadoor", sum := "d763daac78ce944662ea5396e7fa17c131bbbaf723263d522ea9795bd7f21e2d", func := "waypost/waypostlaw13.PersistRuns", spec := "persistRuns", inPlace := ["internal/bytealg.IndexByteString", "internal/bytealg.IndexString"], unfollowed := true, recurses := true, named := ["unicode/utf8.first", "unicode/utf8.acceptRanges", "internal/bytealg.MaxLen"], apart := false, laid := [("unicode/utf8.acceptRanges", laid_unicode_utf8_acceptRanges), ("unicode/utf8.first", laid_unicode_utf8_first)], narrowed := true }
def PersistRunsUptoSaid : Prop := persistRunsUptoRow.holds Tryd.pinned (OpenSpec.upto persistRunsSpec)

/-- 'waypostlaw13.PersistSteps', WHERE WHAT IT READS IS OF BULK AT MOST 1048576: true; the input reads as it did. -/
def persistStepsUptoRow : OpenClaim := { program := "ytepemdmjbfoiaaadoor", sum := "d763daac78ce944662ea5396e7fa17c131bbbaf723263d522ea9795bd7f21e2d", func := "waypost/waypostlaw13.PersistSteps", spec := "persistSteps", inPlace := ["internal/bytealg.IndexByteString", "internal/bytealg.IndexString"], unfollowed := true, recurses := true, named := ["unicode/utf8.first", "unicode/utf8.acceptRanges", "internal/bytealg.MaxLen"], apart := false, laid := [("unicode/utf8.acceptRanges", laid_unicode_utf8_acceptRanges), ("unicode/utf8.first", laid_unicode_utf8_first)], narrowed := true }
def PersistStepsUptoSaid : Prop := persistStepsUptoRow.holds Tryd.pinned (OpenSpec.upto persistStepsSpec)

end Rows
end Go.Proofs.YtepemdmjbfoiaaaDoor
