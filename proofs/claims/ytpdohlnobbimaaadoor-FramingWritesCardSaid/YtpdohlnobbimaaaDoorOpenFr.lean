/-
  What a framing that came in as an argument gives.
-/
import Derived.Test.YtpdohlnobbimaaaDoorProg
import Derived.Test.YtpdohlnobbimaaaDoorBase
import Derived.Lib.SmallJoins
import Derived.OpenShut
namespace Go.Proofs.YtpdohlnobbimaaaDoor
open Go.RowKit Go.WideShapes Go.ChangeShapes

section
variable {H : Type} {enc : TypeId × Value → H}
set_option maxRecDepth 100000 in
theorem open_fr {W : World} {base : Nat} {v : Value} {d : DataW H} {p : List MemPlace} (hval : Value.okWide Tryd.prog W .any base 48 v) (h : DataW.Trod enc Tryd.prog W 0 (fun _ => true) true 48 v d p) :
    ∃ (k n : Int), v = .agg #[.int .i64 k, .int .i64 n] := by
  obtain ⟨v0, v1, y0, y1, n, rfl, _, _, h0, h1⟩ := Go.Joins.open_agg2 Tryd.underlying48 (by kernel_rfl) (by kernel_rfl) hval h
  obtain ⟨s, e0, _, _⟩ := DataW.trod_int Tryd.underlying3 h0
  obtain ⟨t, e1, _, _⟩ := DataW.trod_int Tryd.underlying3 h1
  simp only [List.cons.injEq, and_true] at e0 e1
  subst e0 e1
  exact ⟨s, t, rfl⟩
end
end Go.Proofs.YtpdohlnobbimaaaDoor
