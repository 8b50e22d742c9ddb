/-
  What a field that came in as an argument gives.
-/
import Derived.Test.YtpdohlnobbimaaaDoorProg
import Derived.Test.YtpdohlnobbimaaaDoorFdP
import Derived.Lib.SmallJoins
import Derived.OpenShut
namespace Go.Proofs.YtpdohlnobbimaaaDoor
open Go.RowKit Go.WideShapes Go.ChangeShapes

section
variable {H : Type} {enc : TypeId × Value → H}
set_option maxRecDepth 100000 in
theorem open_fld {W : World} {base : Nat} {v : Value} {d : DataW H} {p : List MemPlace} (hval : Value.okWide Tryd.prog W .any base 36 v) (h : DataW.Trod enc Tryd.prog W 0 (fun _ => true) true 36 v d p) :
    ∃ x : Fld, v = .agg #[.string (bs x.1), .string (bs x.2)] ∧ x.1.length ≤ maxLen ∧ x.2.length ≤ maxLen := by
  obtain ⟨v0, v1, y0, y1, n, rfl, _, _, h0, h1⟩ := Go.Joins.open_agg2 Tryd.underlying36 (by kernel_rfl) (by kernel_rfl) hval h
  obtain ⟨s, e0, _, b0⟩ := DataW.trod_string Tryd.underlying9 h0
  obtain ⟨t, e1, _, b1⟩ := DataW.trod_string Tryd.underlying9 h1
  simp only [List.cons.injEq, and_true] at e0 e1
  subst e0 e1
  exact ⟨(s.data.toList, t.data.toList), rfl, by rw [size_l]; exact b0, by rw [size_l]; exact b1⟩
end
end Go.Proofs.YtpdohlnobbimaaaDoor
