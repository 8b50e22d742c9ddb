/-
  same of the statements on handlers; HandlerKnown's walk.
-/
import Derived.Test.YthhlnpfcpgfcfaaGreatDoorHa13
import Derived.Test.YthhlnpfcpgfcfaaGreatDoorSf
namespace Go.Proofs.YthhlnpfcpgfcfaaGreatDoor
open Go.RowKit

set_option maxRecDepth 100000 in
set_option maxHeartbeats 4000000 in
theorem pSame42 (r : Rsp) (A B : Option Addr) (n m c d : Nat) (w : World) (hr : Reads w w.heap.size 2 A n (fldsC r.flds)) (ht : Reads w w.heap.size 2 B m (fldsC r.flds)) (hn : n ≤ 1000000) :
    Calls Tryz.prog 21 #[rspV r A n c, rspV r B m d] w fun e w' => e = .returned (.bool true) ∧ Below w.heap.size w w' := by
  obtain rfl := hr.flen
  obtain rfl := ht.flen
  obtain ⟨code, flds, body, close, head⟩ := r
  unfold rspV
  simp only at *
  have bX : Below w.heap.size w ((w.alloc (.cells #[.int .i64 code, .slice A flds.length c, .string (bs body), .bool close, .bool head] 24)).alloc (.cells #[.int .i64 code, .slice B flds.length d, .string (bs body), .bool close, .bool head] 24)) := ((Below.refl _ _).alloc (Nat.le_refl _) _).alloc (by simp) _
  have kX := (Blk.new w 24 #[.int .i64 code, .slice A flds.length c, .string (bs body), .bool close, .bool head]).alloc (.cells #[.int .i64 code, .slice B flds.length d, .string (bs body), .bool close, .bool head] 24)
  have kZ := Blk.new (w.alloc (.cells #[.int .i64 code, .slice A flds.length c, .string (bs body), .bool close, .bool head] 24)) 24 #[.int .i64 code, .slice B flds.length d, .string (bs body), .bool close, .bool head]
  rw [show (w.alloc (.cells #[.int .i64 code, .slice A flds.length c, .string (bs body), .bool close, .bool head] 24)).heap.size = w.heap.size + 1 by simp] at kZ
  have cS := SameFieldsR A B flds.length flds.length c d flds flds _ ((hr.below bX).more bX.size) ((ht.below bX).more bX.size) hn hn
  rw [decide_eq_true (rfl : flds = flds)] at cS
  have CS := Lib.hid cS
  have e0 : (code == code) = true := by simp
  have e1 : ((bs body).toList == (bs body).toList) = true := by simp
  have KX := Lib.hid kX
  have KZ := Lib.hid kZ
  have BX := Lib.hid bX
  clear bX kX kZ hr ht cS
  cases close <;> cases head
  all_goals (
    have c0 := KX.out.cell 0
    have c1 := KX.out.cell 1
    have c2 := KX.out.cell 2
    have c3 := KX.out.cell 3
    have c4 := KX.out.cell 4
    have d0 := KZ.out.cell 0
    have d1 := KZ.out.cell 1
    have d2 := KZ.out.cell 2
    have d3 := KZ.out.cell 3
    have d4 := KZ.out.cell 4
    simp only [List.getElem?_toArray, List.getElem?_cons_zero, List.getElem?_cons_succ] at c0 c1 c2 c3 c4 d0 d1 d2 d3 d4
    go_enter Tryz.func21, Tryz.ntmps21
    go_wp2_with fail
    (with_reducible refine (CS.out).mono ?_); rintro e w1 ⟨rfl, k, rfl⟩
    go_wp2_with fail
    go_ret
    exact ⟨rfl, below_drewN BX.out k⟩)
end Go.Proofs.YthhlnpfcpgfcfaaGreatDoor
