/-
  Words for texts in walks: empty or not, equal or not, blanks cut off. Lemmas of no program but for strings.Trim's contract.
-/
import Derived.Test.YtkbihipgnlglbaaGreatDoorBase
import Derived.Test.YtkbihipgnlglbaaGreatDoorSplitP
import Derived.Test.YtkbihipgnlglbaaGreatDoorShelf
import Derived.Shelf.Strings.SlTrimAscii
import Derived.Outline
namespace Go.Proofs.YtkbihipgnlglbaaGreatDoor
open Go.RowKit

theorem emp_t {s : ByteArray} (h : s.size = 0) : s.toList.isEmpty = true := by
  rw [Lib.toList_data, List.isEmpty_iff]; exact List.eq_nil_of_length_eq_zero (by rw [size_l]; exact h)
theorem emp_f {s : ByteArray} (h : s.size ≠ 0) : s.toList.isEmpty = false := by
  rw [Lib.toList_data, List.isEmpty_eq_false_iff]; intro e; exact h (by rw [← size_l, e]; rfl)
theorem eqb_t {a : Nat} {b : Int} (h : (a : Int) = b) : ((a : Int) == b) = true := beq_iff_eq.2 h
theorem eqb_f {a : Nat} {b : Int} (h : (a : Int) ≠ b) : ((a : Int) == b) = false := beq_eq_false_iff_ne.2 h
/-- a text, trimmed -/
def tr (p : ByteArray) : ByteArray := ⟨(trimL p.data.toList).toArray⟩
theorem tr_list (p : ByteArray) : (tr p).data.toList = trimL p.data.toList := rfl
theorem tr_size (p : ByteArray) : (tr p).size ≤ p.size := by rw [← size_l, ← size_l]; exact trimL_le _
theorem Trim_any (s : ByteArray) (w : World) (hs : s.size ≤ 9223372036854775807) :
    Calls Tryz.prog 99 #[.string s, .string ⟨#[32, 9]⟩] w fun e w' => e = .returned (.string (tr s)) ∧ Below w.heap.size w w' := by
  have h := Any.strings_Trim_laid Tryz.lays160 (by kernel_rfl) s ⟨#[32, 9]⟩ w hs (by decide) (ascii_of_all (by decide))
  have e : Lib.trimS s.data.toList (⟨#[32, 9]⟩ : ByteArray).data.toList = trimL s.data.toList := trimS_eq _
  rw [e] at h
  exact h
end Go.Proofs.YtkbihipgnlglbaaGreatDoor
