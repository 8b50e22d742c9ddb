/-
  The contract of package token's List: the early ways, and the words for the loop.
-/
import Derived.Test.YtpdohlnobbimaaaDoorSeq
namespace Go.Proofs.YtpdohlnobbimaaaDoor
open Go.RowKit Go.Shelf
attribute [local go_sem] Oper.semAt_some

/-- a list of texts handed back, and an error -/
def ListPost (t : List (List UInt8) × Nat) (w : World) (e : Ending) (w' : World) : Prop :=
  ∃ A cap, e = .returned (.tuple #[.slice A t.1.length cap, .int .i64 t.2]) ∧ Reads w' w'.heap.size 1 A t.1.length (strs t.1) ∧ Below w.heap.size w w'

end Go.Proofs.YtpdohlnobbimaaaDoor
