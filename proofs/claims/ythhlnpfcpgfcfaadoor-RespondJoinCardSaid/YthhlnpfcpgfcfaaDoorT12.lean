/-
  What the walks of the statements on responses ask of a world.
-/
import Derived.Test.YthhlnpfcpgfcfaaDoorRs7
namespace Go.Proofs.YthhlnpfcpgfcfaaDoor
open Go.RowKit

/-- all that the walks of these statements ask -/
structure Tab12 (w : World) : Prop where
  r : TabR w
  m : MaxL w
  e : Errs w
theorem Tab12.below {w w' : World} (h : Tab12 w) (hb : Below w.heap.size w w') : Tab12 w' := ⟨h.r.below hb, h.m.below hb, h.e.below hb⟩
def Awake12 : Prop := ∀ X, Tab12 X → Calls Tryd.prog 11 #[] X fun e w' => e = .returned (.bool true) ∧ Below X.heap.size X w'
end Go.Proofs.YthhlnpfcpgfcfaaDoor
