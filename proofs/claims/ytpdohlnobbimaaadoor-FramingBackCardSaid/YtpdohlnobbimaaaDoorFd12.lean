/-
  Drop of the reference.
-/
import Derived.BigQuiet
import Derived.Test.YtpdohlnobbimaaaDoorFd11
namespace Go.Proofs.YtpdohlnobbimaaaDoor
open Go.RowKit

/-- whether a field has one of the names -/
def goneF (ns : List (List UInt8)) (f : Fld) : Bool := ns.any fun nm => sameN nm f
def dropL (ns : List (List UInt8)) (l : List Fld) : List Fld := l.filter fun f => !goneF ns f
theorem dropL_app (ns : List (List UInt8)) (l : List Fld) (f : Fld) : dropL ns (l ++ [f]) = dropL ns l ++ (if goneF ns f then [] else [f]) := by
  unfold dropL
  rw [List.filter_append]
  cases h : goneF ns f <;> simp [h]
theorem dropL_len (ns : List (List UInt8)) (l : List Fld) : (dropL ns l).length ≤ l.length := List.length_filter_le _ _
def dropR (ns : List (List UInt8)) (l : List Fld) : List Fld := if askL l ns = 0 then dropL ns l else []
def dropN (ns : List (List UInt8)) (l : List Fld) : Nat := if askL l ns = 0 then l.length - (dropL ns l).length else 0
def DropPost (ns : List (List UInt8)) (l : List Fld) (w : World) (e : Ending) (w' : World) : Prop := ∃ A cap, e = .returned (.tuple #[.slice A (dropR ns l).length cap, .int .i64 (dropN ns l), .int .i64 (askL l ns)]) ∧ (dropR ns l).length ≤ cap ∧ Reads w' w'.heap.size 2 A (dropR ns l).length (fldsC (dropR ns l)) ∧ Below w.heap.size w w'

end Go.Proofs.YtpdohlnobbimaaaDoor
