/-
  What a connection and an event that came in as arguments give.
-/
import Derived.Test.YtepemdmjbfoiaaaDoorProg
import Derived.Test.YtepemdmjbfoiaaaDoorBase
import Derived.Lib.SmallJoins
import Derived.OpenShut
namespace Go.Proofs.YtepemdmjbfoiaaaDoor
open Go.RowKit Go.WideShapes Go.ChangeShapes

section
variable {H : Type} {enc : TypeId × Value → H}
set_option maxRecDepth 100000 in
theorem open_lk {W : World} {base : Nat} {v : Value} {d : DataW H} {p : List MemPlace} (hval : Value.okWide Tryd.prog W .any base 76 v) (h : DataW.Trod enc Tryd.prog W 0 (fun _ => true) true 76 v d p) :
    ∃ (s : Int) (a : Bool) (m c : Int), v = .agg #[.int .i64 s, .bool a, .int .i64 m, .int .i64 c] := by
  obtain ⟨v0, v1, v2, v3, y0, y1, y2, y3, n, rfl, _, _, h0, h1, h2, h3⟩ := Go.Joins.open_agg4 Tryd.underlying76 (by kernel_rfl) (by kernel_rfl) hval h
  obtain ⟨s, e0, _, _⟩ := DataW.trod_int Tryd.underlying3 h0
  obtain ⟨a, e1, _⟩ := DataW.trod_bool Tryd.underlying4 h1
  obtain ⟨m, e2, _, _⟩ := DataW.trod_int Tryd.underlying3 h2
  obtain ⟨c, e3, _, _⟩ := DataW.trod_int Tryd.underlying3 h3
  simp only [List.cons.injEq, and_true] at e0 e1 e2 e3
  subst e0 e1 e2 e3
  exact ⟨s, a, m, c, rfl⟩
set_option maxRecDepth 100000 in
theorem open_ev {W : World} {base : Nat} {v : Value} {d : DataW H} {p : List MemPlace} (hval : Value.okWide Tryd.prog W .any base 81 v) (h : DataW.Trod enc Tryd.prog W 0 (fun _ => true) true 81 v d p) :
    ∃ (k c : Int) (b : Bool), v = .agg #[.int .i64 k, .int .i64 c, .bool b] := by
  obtain ⟨v0, v1, v2, y0, y1, y2, n, rfl, _, _, h0, h1, h2⟩ := Go.Joins.open_agg3 Tryd.underlying81 (by kernel_rfl) (by kernel_rfl) hval h
  obtain ⟨s, e0, _, _⟩ := DataW.trod_int Tryd.underlying3 h0
  obtain ⟨m, e1, _, _⟩ := DataW.trod_int Tryd.underlying3 h1
  obtain ⟨a, e2, _⟩ := DataW.trod_bool Tryd.underlying4 h2
  simp only [List.cons.injEq, and_true] at e0 e1 e2
  subst e0 e1 e2
  exact ⟨s, m, a, rfl⟩
end
end Go.Proofs.YtepemdmjbfoiaaaDoor
