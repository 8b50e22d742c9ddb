/-
  The contract of package token's Colon.
-/
import Derived.Test.YthhlnpfcpgfcfaaGreatDoorTk4
namespace Go.Proofs.YthhlnpfcpgfcfaaGreatDoor
open Go.RowKit

/-- the name and the value of a line, or the error -/
def colT (l : List UInt8) : List UInt8 × List UInt8 × Nat :=
  if (cutB 58 l).2.2 && isTok (cutB 58 l).1 && isVal (trimL (cutB 58 l).2.1) then ((cutB 58 l).1, trimL (cutB 58 l).2.1, 0) else ([], [], 3)
theorem bs_list (l : List UInt8) : (bs l).data.toList = l := rfl
theorem bs_size (l : List UInt8) : (bs l).size = l.length := by rw [← size_l, bs_list]
theorem cutB_len (c : UInt8) (l : List UInt8) : (cutB c l).1.length ≤ l.length ∧ (cutB c l).2.1.length ≤ l.length := by
  rcases idx_cases c l with ⟨_, h⟩ | ⟨a, r, h1, _, h⟩
  · rw [h]; simp
  · rw [h]
    have := congrArg List.length h1
    simp at this
    simp only
    omega

end Go.Proofs.YthhlnpfcpgfcfaaGreatDoor
