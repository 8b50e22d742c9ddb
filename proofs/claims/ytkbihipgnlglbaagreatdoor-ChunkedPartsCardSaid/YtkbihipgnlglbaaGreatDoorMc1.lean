/-
  The decoder that is fed (chunked.machine): fail, to, expect, after, behind.
-/
import Derived.Test.YtkbihipgnlglbaaGreatDoorProg
import Derived.Test.YtkbihipgnlglbaaGreatDoorBase
import Derived.Lib.BufferOwn
import Derived.Lib.Hide
namespace Go.Proofs.YtkbihipgnlglbaaGreatDoor
open Go.RowKit

/-- the cells of a decoder that is fed -/
def mC (st size dg left : Int) (B L : ByteArray) (lines status : Int) (v : Value) : Array Value := #[.int .i64 st, .int .i64 size, .int .i64 dg, .int .i64 left, .string B, .string L, .int .i64 lines, .int .i64 status, v]
/-- what a method leaves: the block's cells are others, all else is as it was -/
def McPost (g : Nat) (cs : Array Value) (w : World) (e : Ending) (w' : World) : Prop := e = .returned (.tuple #[]) ∧ Blk w' g 66 cs ∧ w.grownBy w' (some g)

set_option maxRecDepth 100000 in
set_option maxHeartbeats 4000000 in
theorem mFail (st size dg left : Int) (B L : ByteArray) (lines status : Int) (v : Value) (s : Int) (g : Nat) (W : World) (hB : Blk W g 66 (mC st size dg left B L lines status v)) : Calls Tryz.prog 71 #[.pointer (some ⟨g, 0, none⟩), .int .i64 s] W (McPost g (mC 8 0 0 0 ⟨#[]⟩ ⟨#[]⟩ 0 s v) W) := by
  have p0 : W.cell? ⟨g, 0, none⟩ = some (.int .i64 st) := hB.cell 0
  have p1 : W.cell? ⟨g, 1, none⟩ = some (.int .i64 size) := hB.cell 1
  have p2 : W.cell? ⟨g, 2, none⟩ = some (.int .i64 dg) := hB.cell 2
  have p3 : W.cell? ⟨g, 3, none⟩ = some (.int .i64 left) := hB.cell 3
  have p4 : W.cell? ⟨g, 4, none⟩ = some (.string B) := hB.cell 4
  have p5 : W.cell? ⟨g, 5, none⟩ = some (.string L) := hB.cell 5
  have p6 : W.cell? ⟨g, 6, none⟩ = some (.int .i64 lines) := hB.cell 6
  have p7 : W.cell? ⟨g, 7, none⟩ = some (.int .i64 status) := hB.cell 7
  have p8 : W.cell? ⟨g, 8, none⟩ = some (v) := hB.cell 8
  have f0 : W.frozen? ⟨g, 0, none⟩ = false := hB.frozen 0
  have f1 : W.frozen? ⟨g, 1, none⟩ = false := hB.frozen 1
  have f2 : W.frozen? ⟨g, 2, none⟩ = false := hB.frozen 2
  have f3 : W.frozen? ⟨g, 3, none⟩ = false := hB.frozen 3
  have f4 : W.frozen? ⟨g, 4, none⟩ = false := hB.frozen 4
  have f5 : W.frozen? ⟨g, 5, none⟩ = false := hB.frozen 5
  have f6 : W.frozen? ⟨g, 6, none⟩ = false := hB.frozen 6
  have f7 : W.frozen? ⟨g, 7, none⟩ = false := hB.frozen 7
  have f8 : W.frozen? ⟨g, 8, none⟩ = false := hB.frozen 8
  have HB := Lib.hid hB
  clear hB
  go_enter Tryz.func71, Tryz.ntmps71
  go_wp2_with fail
  go_end0
  have hB := HB.out
  have b := ((((((((hB.set_ 0 (.int .i64 8)).set_ 1 (.int .i64 0)).set_ 2 (.int .i64 0)).set_ 3 (.int .i64 0)).set_ 4 (.string ⟨#[]⟩)).set_ 5 (.string ⟨#[]⟩)).set_ 6 (.int .i64 0)).set_ 7 (.int .i64 s))
  have e : (((((((((mC st size dg left B L lines status v).setIfInBounds 0 (.int .i64 8)).setIfInBounds 1 (.int .i64 0)).setIfInBounds 2 (.int .i64 0)).setIfInBounds 3 (.int .i64 0)).setIfInBounds 4 (.string ⟨#[]⟩)).setIfInBounds 5 (.string ⟨#[]⟩)).setIfInBounds 6 (.int .i64 0)).setIfInBounds 7 (.int .i64 s)) = mC 8 0 0 0 ⟨#[]⟩ ⟨#[]⟩ 0 s v := by simp [mC]
  rw [e] at b
  have k := (Lib.grownBy_setB (Lib.grownBy_setB (Lib.grownBy_setB (Lib.grownBy_setB (Lib.grownBy_setB (Lib.grownBy_setB (Lib.grownBy_setB (Lib.grownBy_setB (World.grownBy.refl W (some g)) 0 (.int .i64 8)) 1 (.int .i64 0)) 2 (.int .i64 0)) 3 (.int .i64 0)) 4 (.string ⟨#[]⟩)) 5 (.string ⟨#[]⟩)) 6 (.int .i64 0)) 7 (.int .i64 s))
  exact ⟨rfl, b, k⟩

set_option maxRecDepth 100000 in
set_option maxHeartbeats 4000000 in
theorem mTo (st size dg left : Int) (B L : ByteArray) (lines status : Int) (v : Value) (t : Int) (g : Nat) (W : World) (hB : Blk W g 66 (mC st size dg left B L lines status v)) : Calls Tryz.prog 72 #[.pointer (some ⟨g, 0, none⟩), .int .i64 t] W (McPost g (mC t 0 0 0 ⟨#[]⟩ ⟨#[]⟩ lines 0 v) W) := by
  have p0 : W.cell? ⟨g, 0, none⟩ = some (.int .i64 st) := hB.cell 0
  have p1 : W.cell? ⟨g, 1, none⟩ = some (.int .i64 size) := hB.cell 1
  have p2 : W.cell? ⟨g, 2, none⟩ = some (.int .i64 dg) := hB.cell 2
  have p3 : W.cell? ⟨g, 3, none⟩ = some (.int .i64 left) := hB.cell 3
  have p4 : W.cell? ⟨g, 4, none⟩ = some (.string B) := hB.cell 4
  have p5 : W.cell? ⟨g, 5, none⟩ = some (.string L) := hB.cell 5
  have p6 : W.cell? ⟨g, 6, none⟩ = some (.int .i64 lines) := hB.cell 6
  have p7 : W.cell? ⟨g, 7, none⟩ = some (.int .i64 status) := hB.cell 7
  have p8 : W.cell? ⟨g, 8, none⟩ = some (v) := hB.cell 8
  have f0 : W.frozen? ⟨g, 0, none⟩ = false := hB.frozen 0
  have f1 : W.frozen? ⟨g, 1, none⟩ = false := hB.frozen 1
  have f2 : W.frozen? ⟨g, 2, none⟩ = false := hB.frozen 2
  have f3 : W.frozen? ⟨g, 3, none⟩ = false := hB.frozen 3
  have f4 : W.frozen? ⟨g, 4, none⟩ = false := hB.frozen 4
  have f5 : W.frozen? ⟨g, 5, none⟩ = false := hB.frozen 5
  have f6 : W.frozen? ⟨g, 6, none⟩ = false := hB.frozen 6
  have f7 : W.frozen? ⟨g, 7, none⟩ = false := hB.frozen 7
  have f8 : W.frozen? ⟨g, 8, none⟩ = false := hB.frozen 8
  have HB := Lib.hid hB
  clear hB
  go_enter Tryz.func72, Tryz.ntmps72
  go_wp2_with fail
  go_end0
  have hB := HB.out
  have b := ((((((((hB.set_ 0 (.int .i64 t)).set_ 1 (.int .i64 0)).set_ 2 (.int .i64 0)).set_ 3 (.int .i64 0)).set_ 4 (.string ⟨#[]⟩)).set_ 5 (.string ⟨#[]⟩)).set_ 6 (.int .i64 lines)).set_ 7 (.int .i64 0))
  have e : (((((((((mC st size dg left B L lines status v).setIfInBounds 0 (.int .i64 t)).setIfInBounds 1 (.int .i64 0)).setIfInBounds 2 (.int .i64 0)).setIfInBounds 3 (.int .i64 0)).setIfInBounds 4 (.string ⟨#[]⟩)).setIfInBounds 5 (.string ⟨#[]⟩)).setIfInBounds 6 (.int .i64 lines)).setIfInBounds 7 (.int .i64 0)) = mC t 0 0 0 ⟨#[]⟩ ⟨#[]⟩ lines 0 v := by simp [mC]
  rw [e] at b
  have k := (Lib.grownBy_setB (Lib.grownBy_setB (Lib.grownBy_setB (Lib.grownBy_setB (Lib.grownBy_setB (Lib.grownBy_setB (Lib.grownBy_setB (Lib.grownBy_setB (World.grownBy.refl W (some g)) 0 (.int .i64 t)) 1 (.int .i64 0)) 2 (.int .i64 0)) 3 (.int .i64 0)) 4 (.string ⟨#[]⟩)) 5 (.string ⟨#[]⟩)) 6 (.int .i64 lines)) 7 (.int .i64 0))
  exact ⟨rfl, b, k⟩

theorem mExpect (st size dg left : Int) (B L : ByteArray) (lines status : Int) (v : Value) (x y t : Int) (g : Nat) (W : World) (hB : Blk W g 66 (mC st size dg left B L lines status v)) : Calls Tryz.prog 73 #[.pointer (some ⟨g, 0, none⟩), .int .u8 x, .int .u8 y, .int .i64 t] W (McPost g (if x = y then mC t 0 0 0 ⟨#[]⟩ ⟨#[]⟩ lines 0 v else mC 8 0 0 0 ⟨#[]⟩ ⟨#[]⟩ 0 400 v) W) := by
  have C1 := Lib.hid (mFail st size dg left B L lines status v 400 g W hB)
  have C2 := Lib.hid (mTo st size dg left B L lines status v t g W hB)
  clear hB
  by_cases h : x = y
  · rw [if_pos h]
    have e1 : (x != y) = false := by simp [h]
    clear h
    go_enter Tryz.func73, Tryz.ntmps73
    go_wp2_with fail
    (with_reducible refine (C2.out).mono ?_); rintro e w2 ⟨rfl, hb, hg⟩
    go_wp2_with fail
    go_end0
    exact ⟨rfl, hb, hg⟩
  · rw [if_neg h]
    have e1 : (x != y) = true := by simp [h]
    clear h
    go_enter Tryz.func73, Tryz.ntmps73
    go_wp2_with fail
    (with_reducible refine (C1.out).mono ?_); rintro e w2 ⟨rfl, hb, hg⟩
    go_wp2_with fail
    first | go_end0 | (refine bodyPost_ret (results_none rfl _ _ _) rfl ?_)
    exact ⟨rfl, hb, hg⟩

theorem mAfter (st size dg left : Int) (B L : ByteArray) (lines status : Int) (v : Value) (x : Int) (g : Nat) (W : World) (hB : Blk W g 66 (mC st size dg left B L lines status v)) : Calls Tryz.prog 59 #[.pointer (some ⟨g, 0, none⟩), .int .u8 x] W (McPost g (if x = 13 then mC 4 0 0 0 ⟨#[]⟩ ⟨#[]⟩ lines 0 v else mC 8 0 0 0 ⟨#[]⟩ ⟨#[]⟩ 0 400 v) W) := by
  have c := mExpect st size dg left B L lines status v x 13 4 g W hB
  generalize (if x = 13 then _ else _) = R at c ⊢
  have C1 := Lib.hid c
  clear hB c
  go_enter Tryz.func59, Tryz.ntmps59
  go_wp2_with fail
  (with_reducible refine (C1.out).mono ?_); rintro e w2 ⟨rfl, hb, hg⟩
  go_wp2_with fail
  go_end0
  exact ⟨rfl, hb, hg⟩

theorem mBehind (st size dg left : Int) (B L : ByteArray) (lines status : Int) (v : Value) (x : Int) (g : Nat) (W : World) (hB : Blk W g 66 (mC st size dg left B L lines status v)) : Calls Tryz.prog 60 #[.pointer (some ⟨g, 0, none⟩), .int .u8 x] W (McPost g (if x = 10 then mC 0 0 0 0 ⟨#[]⟩ ⟨#[]⟩ lines 0 v else mC 8 0 0 0 ⟨#[]⟩ ⟨#[]⟩ 0 400 v) W) := by
  have c := mExpect st size dg left B L lines status v x 10 0 g W hB
  generalize (if x = 10 then _ else _) = R at c ⊢
  have C1 := Lib.hid c
  clear hB c
  go_enter Tryz.func60, Tryz.ntmps60
  go_wp2_with fail
  (with_reducible refine (C1.out).mono ?_); rintro e w2 ⟨rfl, hb, hg⟩
  go_wp2_with fail
  go_end0
  exact ⟨rfl, hb, hg⟩

end Go.Proofs.YtkbihipgnlglbaaGreatDoor
