/-
  Tests on whole numbers as the walk spells them. Lemmas of no program.
-/
import Derived.WalkKit
namespace Go.Proofs.YthhlnpfcpgfcfaaGreatDoor
theorem beqT {a b : Int} (h : a = b) : (a == b) = true := beq_iff_eq.2 h
theorem beqF {a b : Int} (h : a ≠ b) : (a == b) = false := beq_eq_false_iff_ne.2 h
theorem bneT {a b : Int} (h : a ≠ b) : (a != b) = true := bne_iff_ne.2 h
theorem bneF {a b : Int} (h : a = b) : (a != b) = false := by simp [h]
end Go.Proofs.YthhlnpfcpgfcfaaGreatDoor
