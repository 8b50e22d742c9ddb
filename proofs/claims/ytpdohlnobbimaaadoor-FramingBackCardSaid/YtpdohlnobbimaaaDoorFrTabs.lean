/-
  What a row's list of variables gives the walks of this seat: the table of powers of ten and the de Bruijn table.
-/
import Derived.Test.YtpdohlnobbimaaaDoorCb
import Derived.Test.YtpdohlnobbimaaaDoorFrA
namespace Go.Proofs.YtpdohlnobbimaaaDoor
open Go.RowKit

theorem gPow : Tryd.prog.globalNamed "internal/strconv.uint64pow10" = some 0 := by kernel_rfl
theorem gPowType : (Tryd.prog.globals[0]?).map (·.type) = some 163 := by kernel_rfl
theorem gTz : Tryd.prog.globalNamed "math/bits.deBruijn64tab" = some 7 := by kernel_rfl
theorem gTzType : (Tryd.prog.globals[7]?).map (·.type) = some 192 := by kernel_rfl
theorem cells_u8 : Tryd.prog.cellsOf 5 = 1 := by kernel_rfl
theorem cells_u64 : Tryd.prog.cellsOf 128 = 1 := by kernel_rfl
theorem cells_a20 : Tryd.prog.cellsOf 163 = 20 := by kernel_rfl
theorem cells_a64 : Tryd.prog.cellsOf 192 = 64 := by kernel_rfl
theorem powData : (Lib.tabData .u64 Lib.pow10Tab : DataW Unit) = Rows.laid_internal_strconv_uint64pow10 := rfl
theorem tzData : (Lib.tabData .u8 (Lib.deBruijn64tab.map Int.ofNat) : DataW Unit) = Rows.laid_math_bits_deBruijn64tab := by kernel_rfl
theorem tabs_of_laid {W : World} {laid : List (String × DataW Unit)} (h : laidMet Tryd.prog laid W) (h1 : ("internal/strconv.uint64pow10", Rows.laid_internal_strconv_uint64pow10) ∈ laid) (h2 : ("math/bits.deBruijn64tab", Rows.laid_math_bits_deBruijn64tab) ∈ laid) : Tabs W := by
  refine ⟨tabIs_of_reads gPow gPowType Tryd.underlying163 Tryd.underlying128 cells_u64 cells_a20 (by rw [powData]; exact Lib.laidMet.reads h h1), fun j hj => ?_⟩
  have ht : Lib.TabIs Tryd.prog W "math/bits.deBruijn64tab" .u8 (Lib.deBruijn64tab.map Int.ofNat) := tabIs_of_reads gTz gTzType Tryd.underlying192 Tryd.underlying5 cells_u8 cells_a64 (by rw [tzData]; exact Lib.laidMet.reads h h2)
  have := ht.cell gTz j (by simpa using hj)
  rw [this]
  simp [List.getD_eq_getElem?_getD, List.getElem?_map, List.getElem?_eq_getElem hj]
end Go.Proofs.YtpdohlnobbimaaaDoor
