/-
  The contracts of package token on one text: Is, Value, Trim.
-/
import Derived.Test.YthhlnpfcpgfcfaaGreatDoorTk1
import Derived.Test.YthhlnpfcpgfcfaaGreatDoorStr
namespace Go.Proofs.YthhlnpfcpgfcfaaGreatDoor
open Go.RowKit

def isTok (l : List UInt8) : Bool := !l.isEmpty && l.all fun b => tokP b.toNat
def isVal (l : List UInt8) : Bool := trimL l == l && l.all fun b => valP b.toNat

theorem TIs_any (s : ByteArray) (w : World) (hs : s.size ≤ 9223372036854775807) :
    Calls Tryz.prog 73 #[.string s] w fun e w' => e = .returned (.bool (isTok s.data.toList)) ∧ Below w.heap.size w w' := by
  have CC := Lib.hid chars_any
  have cA := fun w => All_any tokP s w hs
  have CA := Lib.hid cA
  clear cA
  go_enter Tryz.func73, Tryz.ntmps73
  by_cases h0 : s.size = 0
  · have e1 := emp_t h0
    go_wp2_with fail
    go_ret
    refine ⟨ret_bool ?_, Below.refl _ _⟩
    rw [Lib.toList_data] at e1
    simp [isTok, e1]
  · have e1 := emp_f h0
    go_wp2_with fail
    (with_reducible refine (CC.out _).mono ?_); rintro e w1 ⟨rfl, hb1⟩
    go_wp2_with fail
    (with_reducible refine (CA.out _).mono ?_); rintro e w2 ⟨rfl, hb2⟩
    go_wp2_with fail
    go_ret
    refine ⟨ret_bool ?_, hb1.trans (hb2.mono hb1.size)⟩
    rw [Lib.toList_data] at e1
    simp [isTok, e1]
end Go.Proofs.YthhlnpfcpgfcfaaGreatDoor
