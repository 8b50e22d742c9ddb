/-
  Rows that a call owns: kept by what leaves old memory alone; one element more. Lemmas of no program.
-/
import Derived.Test.YthhlnpfcpgfcfaaGreatDoorRf
import Derived.Test.YthhlnpfcpgfcfaaGreatDoorBase
namespace Go.Proofs.YthhlnpfcpgfcfaaGreatDoor
open Go.RowKit

theorem own_below {base e size n : Nat} {W W' : World} {v : Value} {xs : List Value} (ho : W.ownsRow base e size v n xs) (hb : Below W.heap.size W W') : W'.ownsRow base e size v n xs := by
  refine ho.kept (only_of_below hb none) ?_
  rcases ho.2 with ⟨rfl, _⟩ | ⟨g, cap, cur, rfl, _⟩
  · exact .inl rfl
  · exact .inr (by simp [Value.ownBlock])
theorem own_drewN {base e size n : Nat} {W : World} {v : Value} {xs : List Value} (ho : W.ownsRow base e size v n xs) (k : Nat) : (W.drewN k).ownsRow base e size v n xs := own_below ho (below_drewN (Below.refl _ _) k)
end Go.Proofs.YthhlnpfcpgfcfaaGreatDoor
