/-
  The contracts of package token on one text: Is, Value, Trim.
-/
import Derived.Test.YtkbihipgnlglbaaGreatDoorTk1
import Derived.Test.YtkbihipgnlglbaaGreatDoorStr
namespace Go.Proofs.YtkbihipgnlglbaaGreatDoor
open Go.RowKit

def isTok (l : List UInt8) : Bool := !l.isEmpty && l.all fun b => tokP b.toNat
def isVal (l : List UInt8) : Bool := trimL l == l && l.all fun b => valP b.toNat

theorem TTrim_any (s : ByteArray) (w : World) (hs : s.size ≤ 9223372036854775807) :
    Calls Tryz.prog 86 #[.string s] w fun e w' => e = .returned (.string (tr s)) ∧ Below w.heap.size w w' := by
  have C := Lib.hid (Trim_any s)
  go_enter Tryz.func86, Tryz.ntmps86
  go_wp2_with fail
  (with_reducible refine (C.out _ hs).mono ?_); rintro e w1 ⟨rfl, hb1⟩
  go_wp2_with fail
  go_ret
  exact ⟨rfl, hb1⟩
theorem TIs_any (s : ByteArray) (w : World) (hs : s.size ≤ 9223372036854775807) :
    Calls Tryz.prog 87 #[.string s] w fun e w' => e = .returned (.bool (isTok s.data.toList)) ∧ Below w.heap.size w w' := by
  have CC := Lib.hid chars_any
  have cA := fun w => All_any tokP s w hs
  have CA := Lib.hid cA
  clear cA
  go_enter Tryz.func87, Tryz.ntmps87
  by_cases h0 : s.size = 0
  · have e1 := emp_t h0
    go_wp2_with fail
    go_ret
    refine ⟨ret_bool ?_, Below.refl _ _⟩
    rw [Lib.toList_data] at e1
    simp [isTok, e1]
  · have e1 := emp_f h0
    go_wp2_with fail
    (with_reducible refine (CC.out _).mono ?_); rintro e w1 ⟨rfl, hb1⟩
    go_wp2_with fail
    (with_reducible refine (CA.out _).mono ?_); rintro e w2 ⟨rfl, hb2⟩
    go_wp2_with fail
    go_ret
    refine ⟨ret_bool ?_, hb1.trans (hb2.mono hb1.size)⟩
    rw [Lib.toList_data] at e1
    simp [isTok, e1]
theorem TValue_any (s : ByteArray) (w : World) (hs : s.size ≤ 9223372036854775807) :
    Calls Tryz.prog 88 #[.string s] w fun e w' => e = .returned (.bool (isVal s.data.toList)) ∧ Below w.heap.size w w' := by
  have CC := Lib.hid printed_any
  have cA := fun w => All_any valP s w hs
  have CA := Lib.hid cA
  have cT := fun w => TTrim_any s w hs
  have CT := Lib.hid cT
  clear cA cT
  go_enter Tryz.func88, Tryz.ntmps88
  go_wp2_with fail
  (with_reducible refine (CT.out _).mono ?_); rintro e w1 ⟨rfl, hb1⟩
  by_cases h0 : trimL s.data.toList = s.data.toList
  · have e1 : ((tr s).toList == s.toList) = true := by rw [Lib.toList_data, Lib.toList_data, tr_list, h0]; simp
    go_wp2_with fail
    (with_reducible refine (CC.out _).mono ?_); rintro e w2 ⟨rfl, hb2⟩
    go_wp2_with fail
    (with_reducible refine (CA.out _).mono ?_); rintro e w3 ⟨rfl, hb3⟩
    go_wp2_with fail
    go_ret
    refine ⟨ret_bool ?_, (hb1.trans (hb2.mono hb1.size)).trans (hb3.mono (by have := hb1.size; have := hb2.size; omega))⟩
    simp [isVal, h0]
  · have e1 : ((tr s).toList == s.toList) = false := by rw [Lib.toList_data, Lib.toList_data, tr_list]; simpa using h0
    go_wp2_with fail
    go_ret
    refine ⟨ret_bool ?_, hb1⟩
    simp [isVal, h0]
end Go.Proofs.YtkbihipgnlglbaaGreatDoor
