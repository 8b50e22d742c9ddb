/-
  What a row gives besides its list: the variable that the library's search reads holds some int.
-/
import Derived.Test.YtjdapggdajkphaaDoorNumTabs
import Derived.Test.YtjdapggdajkphaaDoorNumS1
import Derived.Shelf.Vars
namespace Go.Proofs.YtjdapggdajkphaaDoor
open Go.RowKit

theorem tabs2_of_shape {W : World} (h : Tabs W) (hs : W.ShapedOpen Tryd.prog) : Tabs2 W :=
  ⟨h, cell_of_shapedOpen_int (zero := #[.int .i64 0]) (t := 3) hs (of_decide_eq_true (by kernel_rfl)) (by kernel_rfl) rfl (by kernel_rfl) (by kernel_rfl) Tryd.underlying3⟩
end Go.Proofs.YtjdapggdajkphaaDoor
