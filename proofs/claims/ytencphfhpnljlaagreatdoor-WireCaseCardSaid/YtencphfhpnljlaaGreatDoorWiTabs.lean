/-
  What a row gives the walks of chapter 11: the table of powers of ten, the de Bruijn table, strconv.ErrSyntax, and internal/bytealg.MaxLen.
-/
import Derived.Test.YtencphfhpnljlaaGreatDoorCbw
import Derived.Test.YtencphfhpnljlaaGreatDoorWp11
import Derived.Shelf.Vars
import Derived.Stop.LaidErr
import Derived.LaidSub
namespace Go.Proofs.YtencphfhpnljlaaGreatDoor
open Go.RowKit

theorem gPow : Tryz.prog.globalNamed "internal/strconv.uint64pow10" = some 0 := by kernel_rfl
theorem gPowType : (Tryz.prog.globals[0]?).map (·.type) = some 202 := by kernel_rfl
theorem gTz : Tryz.prog.globalNamed "math/bits.deBruijn64tab" = some 7 := by kernel_rfl
theorem gTzType : (Tryz.prog.globals[7]?).map (·.type) = some 239 := by kernel_rfl
theorem cells_u8 : Tryz.prog.cellsOf 5 = 1 := by kernel_rfl
theorem cells_u64 : Tryz.prog.cellsOf 114 = 1 := by kernel_rfl
theorem cells_a20 : Tryz.prog.cellsOf 202 = 20 := by kernel_rfl
theorem cells_a64 : Tryz.prog.cellsOf 239 = 64 := by kernel_rfl
theorem powData : (Lib.tabData .u64 Lib.pow10Tab : DataW Unit) = Rows.laid_internal_strconv_uint64pow10 := rfl
theorem tzData : (Lib.tabData .u8 (Lib.deBruijn64tab.map Int.ofNat) : DataW Unit) = Rows.laid_math_bits_deBruijn64tab := by kernel_rfl
theorem tabs_of_laid {W : World} {laid : List (String × DataW Unit)} (h : laidMet Tryz.prog laid W) (h1 : ("internal/strconv.uint64pow10", Rows.laid_internal_strconv_uint64pow10) ∈ laid) (h2 : ("math/bits.deBruijn64tab", Rows.laid_math_bits_deBruijn64tab) ∈ laid) : Tabs W := by
  refine ⟨tabIs_of_reads gPow gPowType Tryz.underlying202 Tryz.underlying114 cells_u64 cells_a20 (by rw [powData]; exact Lib.laidMet.reads h h1), fun j hj => ?_⟩
  have ht : Lib.TabIs Tryz.prog W "math/bits.deBruijn64tab" .u8 (Lib.deBruijn64tab.map Int.ofNat) := tabIs_of_reads gTz gTzType Tryz.underlying239 Tryz.underlying5 cells_u8 cells_a64 (by rw [tzData]; exact Lib.laidMet.reads h h2)
  have := ht.cell gTz j (by simpa using hj)
  rw [this]
  simp [List.getD_eq_getElem?_getD, List.getElem?_map, List.getElem?_eq_getElem hj]
theorem gErr : Tryz.prog.globalNamed "strconv.ErrSyntax" = some 4 := by kernel_rfl
theorem starE : "*" ++ "errors.errorString" = "*errors.errorString" := by decide
theorem rowErr (u : TypeId) (h : Tryz.prog.typeName? 3 u = some "*errors.errorString") : u = 246 :=
  typeName_ptr_named (nm := "errors.errorString") (by rw [starE]; kernel_rfl) (by kernel_rfl) (by decide) u (by rw [starE]; exact h)
theorem errS_of_laid {W : World} {laid : List (String × DataW Unit)} (h : laidMet Tryz.prog laid W) (h1 : (laid.filter fun x => x.1 == "strconv.ErrSyntax") = [("strconv.ErrSyntax", Rows.laid_strconv_ErrSyntax)]) : ErrS W := by
  have h2 := h.filter fun x => x.1 == "strconv.ErrSyntax"
  rw [h1] at h2
  obtain ⟨a, s, hv, _⟩ := laid_sentinel h2 gErr (by kernel_rfl) Tryz.underlying89 rowErr Tryz.underlying246 Tryz.underlying248 rfl rfl Tryz.underlying9 (by kernel_rfl) (by kernel_rfl)
  exact ⟨_, _, World.var?_cell gErr hv 0⟩
theorem maxL_of_shape {W : World} (hs : W.ShapedOpen Tryz.prog) : MaxL W :=
  cell_of_shapedOpen_int (zero := #[.int .i64 0]) (t := 3) hs (of_decide_eq_true (by kernel_rfl)) (by kernel_rfl) rfl (by kernel_rfl) (by kernel_rfl) Tryz.underlying3
/-- all that the walks of chapter 11 ask of a world -/
structure Tab11 (w : World) : Prop where
  t : Tabs w
  w : TabW w
theorem tab11_of {W : World} {laid : List (String × DataW Unit)} (h : laidMet Tryz.prog laid W) (hs : W.ShapedOpen Tryz.prog) (h1 : ("internal/strconv.uint64pow10", Rows.laid_internal_strconv_uint64pow10) ∈ laid) (h2 : ("math/bits.deBruijn64tab", Rows.laid_math_bits_deBruijn64tab) ∈ laid) (h3 : (laid.filter fun x => x.1 == "strconv.ErrSyntax") = [("strconv.ErrSyntax", Rows.laid_strconv_ErrSyntax)]) : Tab11 W :=
  ⟨tabs_of_laid h h1 h2, ⟨maxL_of_shape hs, errS_of_laid h h3⟩⟩
end Go.Proofs.YtencphfhpnljlaaGreatDoor
