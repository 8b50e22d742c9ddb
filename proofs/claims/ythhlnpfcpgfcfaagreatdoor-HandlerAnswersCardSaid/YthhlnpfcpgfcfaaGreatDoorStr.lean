/-
  Words for texts in walks: empty or not, equal or not, blanks cut off. Lemmas of no program but for strings.Trim's contract.
-/
import Derived.Test.YthhlnpfcpgfcfaaGreatDoorBase
import Derived.Test.YthhlnpfcpgfcfaaGreatDoorSplitP
import Derived.Test.YthhlnpfcpgfcfaaGreatDoorShelf
import Derived.Shelf.Strings.SlTrimAscii
import Derived.Outline
namespace Go.Proofs.YthhlnpfcpgfcfaaGreatDoor
open Go.RowKit

theorem emp_t {s : ByteArray} (h : s.size = 0) : s.toList.isEmpty = true := by
  rw [Lib.toList_data, List.isEmpty_iff]; exact List.eq_nil_of_length_eq_zero (by rw [size_l]; exact h)
theorem emp_f {s : ByteArray} (h : s.size ≠ 0) : s.toList.isEmpty = false := by
  rw [Lib.toList_data, List.isEmpty_eq_false_iff]; intro e; exact h (by rw [← size_l, e]; rfl)
theorem eqb_t {a : Nat} {b : Int} (h : (a : Int) = b) : ((a : Int) == b) = true := beq_iff_eq.2 h
theorem eqb_f {a : Nat} {b : Int} (h : (a : Int) ≠ b) : ((a : Int) == b) = false := beq_eq_false_iff_ne.2 h
/-- a text, trimmed -/
def tr (p : ByteArray) : ByteArray := ⟨(trimL p.data.toList).toArray⟩
theorem tr_list (p : ByteArray) : (tr p).data.toList = trimL p.data.toList := rfl
theorem tr_size (p : ByteArray) : (tr p).size ≤ p.size := by rw [← size_l, ← size_l]; exact trimL_le _
end Go.Proofs.YthhlnpfcpgfcfaaGreatDoor
