/-
  What the walk of HandlerKnown asks beside Tab42, out of what a row lays: the tables of white space and of UTF-8.
-/
import Derived.Test.YthhlnpfcpgfcfaaDoorHaOp
import Derived.Test.YthhlnpfcpgfcfaaDoorHa15
namespace Go.Proofs.YthhlnpfcpgfcfaaDoor
open Go.RowKit Go.Lib

theorem spaces_of {W : World} {laid : List (String × DataW Unit)} (h : laidMet Tryd.prog laid W)
    (h3 : ("strings.asciiSpace", Rows.laid_strings_asciiSpace) ∈ laid) (h4 : ("unicode/utf8.first", Rows.laid_unicode_utf8_first) ∈ laid) (h5 : ("unicode/utf8.acceptRanges", Rows.laid_unicode_utf8_acceptRanges) ∈ laid) (h6 : ("unicode.White_Space", Rows.laid_unicode_White_Space) ∈ laid) : Spaces W :=
  ⟨tabIs_of_reads gAsc gAscType Tryd.underlying134 Tryd.underlying5 cells_u8 cells_a256 (by rw [ascData]; exact Lib.laidMet.reads h h3),
    utf8Tabs_of_reads { Tryd.lays163 with } u8X (by rw [firstDataR]; exact Lib.laidMet.reads h h4) (by rw [acceptDataR]; exact Lib.laidMet.reads h h5),
    whiteTab_of_reads { Tryd.lays163 with } whiteX (by rw [whiteDataR]; exact Lib.laidMet.reads h h6)⟩
end Go.Proofs.YthhlnpfcpgfcfaaDoor
