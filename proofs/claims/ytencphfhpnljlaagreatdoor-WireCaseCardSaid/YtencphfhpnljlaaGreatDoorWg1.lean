/-
  The decoder that is fed (chunked.machine): fail, to, expect, after, behind. The decoder that is fed: sized. The decoder that is fed: last. The decoder that is fed: trailer. The decoder that is fed: size. Bytes in a block of their own that were converted from a string, or grew out of one: one byte more. The decoder that is fed: data.
-/
import Derived.Test.YtencphfhpnljlaaGreatDoorProg
import Derived.Test.YtencphfhpnljlaaGreatDoorWa
import Derived.Lib.BufferOwn
import Derived.Lib.Hide
import Derived.Test.YtencphfhpnljlaaGreatDoorWb1
import Derived.RegionTactic
import Derived.ChangeAlike
import Derived.BigRegion
import Derived.Lib.ConvBytes
import Derived.Lib.FrozenHead
namespace Go.Proofs.YtencphfhpnljlaaGreatDoor

section
open Go.RowKit

/-- the cells of a decoder that is fed -/
def mC (st size dg left : Int) (B L : ByteArray) (lines status : Int) (v : Value) : Array Value := #[.int .i64 st, .int .i64 size, .int .i64 dg, .int .i64 left, .string B, .string L, .int .i64 lines, .int .i64 status, v]
/-- what a method leaves: the block's cells are others, all else is as it was -/
def McPost (g : Nat) (cs : Array Value) (w : World) (e : Ending) (w' : World) : Prop := e = .returned (.tuple #[]) ∧ Blk w' g 185 cs ∧ w.grownBy w' (some g)

set_option maxRecDepth 100000 in
set_option maxHeartbeats 4000000 in
theorem mFail (st size dg left : Int) (B L : ByteArray) (lines status : Int) (v : Value) (s : Int) (g : Nat) (W : World) (hB : Blk W g 185 (mC st size dg left B L lines status v)) : Calls Tryz.prog 186 #[.pointer (some ⟨g, 0, none⟩), .int .i64 s] W (McPost g (mC 8 0 0 0 ⟨#[]⟩ ⟨#[]⟩ 0 s v) W) := by
  have p0 : W.cell? ⟨g, 0, none⟩ = some (.int .i64 st) := hB.cell 0
  have p1 : W.cell? ⟨g, 1, none⟩ = some (.int .i64 size) := hB.cell 1
  have p2 : W.cell? ⟨g, 2, none⟩ = some (.int .i64 dg) := hB.cell 2
  have p3 : W.cell? ⟨g, 3, none⟩ = some (.int .i64 left) := hB.cell 3
  have p4 : W.cell? ⟨g, 4, none⟩ = some (.string B) := hB.cell 4
  have p5 : W.cell? ⟨g, 5, none⟩ = some (.string L) := hB.cell 5
  have p6 : W.cell? ⟨g, 6, none⟩ = some (.int .i64 lines) := hB.cell 6
  have p7 : W.cell? ⟨g, 7, none⟩ = some (.int .i64 status) := hB.cell 7
  have p8 : W.cell? ⟨g, 8, none⟩ = some (v) := hB.cell 8
  have f0 : W.frozen? ⟨g, 0, none⟩ = false := hB.frozen 0
  have f1 : W.frozen? ⟨g, 1, none⟩ = false := hB.frozen 1
  have f2 : W.frozen? ⟨g, 2, none⟩ = false := hB.frozen 2
  have f3 : W.frozen? ⟨g, 3, none⟩ = false := hB.frozen 3
  have f4 : W.frozen? ⟨g, 4, none⟩ = false := hB.frozen 4
  have f5 : W.frozen? ⟨g, 5, none⟩ = false := hB.frozen 5
  have f6 : W.frozen? ⟨g, 6, none⟩ = false := hB.frozen 6
  have f7 : W.frozen? ⟨g, 7, none⟩ = false := hB.frozen 7
  have f8 : W.frozen? ⟨g, 8, none⟩ = false := hB.frozen 8
  have HB := Lib.hid hB
  clear hB
  go_enter Tryz.func186, Tryz.ntmps186
  go_wp2_with fail
  go_end0
  have hB := HB.out
  have b := ((((((((hB.set_ 0 (.int .i64 8)).set_ 1 (.int .i64 0)).set_ 2 (.int .i64 0)).set_ 3 (.int .i64 0)).set_ 4 (.string ⟨#[]⟩)).set_ 5 (.string ⟨#[]⟩)).set_ 6 (.int .i64 0)).set_ 7 (.int .i64 s))
  have e : (((((((((mC st size dg left B L lines status v).setIfInBounds 0 (.int .i64 8)).setIfInBounds 1 (.int .i64 0)).setIfInBounds 2 (.int .i64 0)).setIfInBounds 3 (.int .i64 0)).setIfInBounds 4 (.string ⟨#[]⟩)).setIfInBounds 5 (.string ⟨#[]⟩)).setIfInBounds 6 (.int .i64 0)).setIfInBounds 7 (.int .i64 s)) = mC 8 0 0 0 ⟨#[]⟩ ⟨#[]⟩ 0 s v := by simp [mC]
  rw [e] at b
  have k := (Lib.grownBy_setB (Lib.grownBy_setB (Lib.grownBy_setB (Lib.grownBy_setB (Lib.grownBy_setB (Lib.grownBy_setB (Lib.grownBy_setB (Lib.grownBy_setB (World.grownBy.refl W (some g)) 0 (.int .i64 8)) 1 (.int .i64 0)) 2 (.int .i64 0)) 3 (.int .i64 0)) 4 (.string ⟨#[]⟩)) 5 (.string ⟨#[]⟩)) 6 (.int .i64 0)) 7 (.int .i64 s))
  exact ⟨rfl, b, k⟩

set_option maxRecDepth 100000 in
set_option maxHeartbeats 4000000 in
theorem mTo (st size dg left : Int) (B L : ByteArray) (lines status : Int) (v : Value) (t : Int) (g : Nat) (W : World) (hB : Blk W g 185 (mC st size dg left B L lines status v)) : Calls Tryz.prog 187 #[.pointer (some ⟨g, 0, none⟩), .int .i64 t] W (McPost g (mC t 0 0 0 ⟨#[]⟩ ⟨#[]⟩ lines 0 v) W) := by
  have p0 : W.cell? ⟨g, 0, none⟩ = some (.int .i64 st) := hB.cell 0
  have p1 : W.cell? ⟨g, 1, none⟩ = some (.int .i64 size) := hB.cell 1
  have p2 : W.cell? ⟨g, 2, none⟩ = some (.int .i64 dg) := hB.cell 2
  have p3 : W.cell? ⟨g, 3, none⟩ = some (.int .i64 left) := hB.cell 3
  have p4 : W.cell? ⟨g, 4, none⟩ = some (.string B) := hB.cell 4
  have p5 : W.cell? ⟨g, 5, none⟩ = some (.string L) := hB.cell 5
  have p6 : W.cell? ⟨g, 6, none⟩ = some (.int .i64 lines) := hB.cell 6
  have p7 : W.cell? ⟨g, 7, none⟩ = some (.int .i64 status) := hB.cell 7
  have p8 : W.cell? ⟨g, 8, none⟩ = some (v) := hB.cell 8
  have f0 : W.frozen? ⟨g, 0, none⟩ = false := hB.frozen 0
  have f1 : W.frozen? ⟨g, 1, none⟩ = false := hB.frozen 1
  have f2 : W.frozen? ⟨g, 2, none⟩ = false := hB.frozen 2
  have f3 : W.frozen? ⟨g, 3, none⟩ = false := hB.frozen 3
  have f4 : W.frozen? ⟨g, 4, none⟩ = false := hB.frozen 4
  have f5 : W.frozen? ⟨g, 5, none⟩ = false := hB.frozen 5
  have f6 : W.frozen? ⟨g, 6, none⟩ = false := hB.frozen 6
  have f7 : W.frozen? ⟨g, 7, none⟩ = false := hB.frozen 7
  have f8 : W.frozen? ⟨g, 8, none⟩ = false := hB.frozen 8
  have HB := Lib.hid hB
  clear hB
  go_enter Tryz.func187, Tryz.ntmps187
  go_wp2_with fail
  go_end0
  have hB := HB.out
  have b := ((((((((hB.set_ 0 (.int .i64 t)).set_ 1 (.int .i64 0)).set_ 2 (.int .i64 0)).set_ 3 (.int .i64 0)).set_ 4 (.string ⟨#[]⟩)).set_ 5 (.string ⟨#[]⟩)).set_ 6 (.int .i64 lines)).set_ 7 (.int .i64 0))
  have e : (((((((((mC st size dg left B L lines status v).setIfInBounds 0 (.int .i64 t)).setIfInBounds 1 (.int .i64 0)).setIfInBounds 2 (.int .i64 0)).setIfInBounds 3 (.int .i64 0)).setIfInBounds 4 (.string ⟨#[]⟩)).setIfInBounds 5 (.string ⟨#[]⟩)).setIfInBounds 6 (.int .i64 lines)).setIfInBounds 7 (.int .i64 0)) = mC t 0 0 0 ⟨#[]⟩ ⟨#[]⟩ lines 0 v := by simp [mC]
  rw [e] at b
  have k := (Lib.grownBy_setB (Lib.grownBy_setB (Lib.grownBy_setB (Lib.grownBy_setB (Lib.grownBy_setB (Lib.grownBy_setB (Lib.grownBy_setB (Lib.grownBy_setB (World.grownBy.refl W (some g)) 0 (.int .i64 t)) 1 (.int .i64 0)) 2 (.int .i64 0)) 3 (.int .i64 0)) 4 (.string ⟨#[]⟩)) 5 (.string ⟨#[]⟩)) 6 (.int .i64 lines)) 7 (.int .i64 0))
  exact ⟨rfl, b, k⟩

theorem mExpect (st size dg left : Int) (B L : ByteArray) (lines status : Int) (v : Value) (x y t : Int) (g : Nat) (W : World) (hB : Blk W g 185 (mC st size dg left B L lines status v)) : Calls Tryz.prog 188 #[.pointer (some ⟨g, 0, none⟩), .int .u8 x, .int .u8 y, .int .i64 t] W (McPost g (if x = y then mC t 0 0 0 ⟨#[]⟩ ⟨#[]⟩ lines 0 v else mC 8 0 0 0 ⟨#[]⟩ ⟨#[]⟩ 0 400 v) W) := by
  have C1 := Lib.hid (mFail st size dg left B L lines status v 400 g W hB)
  have C2 := Lib.hid (mTo st size dg left B L lines status v t g W hB)
  clear hB
  by_cases h : x = y
  · rw [if_pos h]
    have e1 : (x != y) = false := by simp [h]
    clear h
    go_enter Tryz.func188, Tryz.ntmps188
    go_wp2_with fail
    (with_reducible refine (C2.out).mono ?_); rintro e w2 ⟨rfl, hb, hg⟩
    go_wp2_with fail
    go_end0
    exact ⟨rfl, hb, hg⟩
  · rw [if_neg h]
    have e1 : (x != y) = true := by simp [h]
    clear h
    go_enter Tryz.func188, Tryz.ntmps188
    go_wp2_with fail
    (with_reducible refine (C1.out).mono ?_); rintro e w2 ⟨rfl, hb, hg⟩
    go_wp2_with fail
    first | go_end0 | (refine bodyPost_ret (results_none rfl _ _ _) rfl ?_)
    exact ⟨rfl, hb, hg⟩

theorem mAfter (st size dg left : Int) (B L : ByteArray) (lines status : Int) (v : Value) (x : Int) (g : Nat) (W : World) (hB : Blk W g 185 (mC st size dg left B L lines status v)) : Calls Tryz.prog 169 #[.pointer (some ⟨g, 0, none⟩), .int .u8 x] W (McPost g (if x = 13 then mC 4 0 0 0 ⟨#[]⟩ ⟨#[]⟩ lines 0 v else mC 8 0 0 0 ⟨#[]⟩ ⟨#[]⟩ 0 400 v) W) := by
  have c := mExpect st size dg left B L lines status v x 13 4 g W hB
  generalize (if x = 13 then _ else _) = R at c ⊢
  have C1 := Lib.hid c
  clear hB c
  go_enter Tryz.func169, Tryz.ntmps169
  go_wp2_with fail
  (with_reducible refine (C1.out).mono ?_); rintro e w2 ⟨rfl, hb, hg⟩
  go_wp2_with fail
  go_end0
  exact ⟨rfl, hb, hg⟩

theorem mBehind (st size dg left : Int) (B L : ByteArray) (lines status : Int) (v : Value) (x : Int) (g : Nat) (W : World) (hB : Blk W g 185 (mC st size dg left B L lines status v)) : Calls Tryz.prog 170 #[.pointer (some ⟨g, 0, none⟩), .int .u8 x] W (McPost g (if x = 10 then mC 0 0 0 0 ⟨#[]⟩ ⟨#[]⟩ lines 0 v else mC 8 0 0 0 ⟨#[]⟩ ⟨#[]⟩ 0 400 v) W) := by
  have c := mExpect st size dg left B L lines status v x 10 0 g W hB
  generalize (if x = 10 then _ else _) = R at c ⊢
  have C1 := Lib.hid c
  clear hB c
  go_enter Tryz.func170, Tryz.ntmps170
  go_wp2_with fail
  (with_reducible refine (C1.out).mono ?_); rintro e w2 ⟨rfl, hb, hg⟩
  go_wp2_with fail
  go_end0
  exact ⟨rfl, hb, hg⟩
end

section
open Go.RowKit

set_option maxRecDepth 100000 in
set_option maxHeartbeats 4000000 in
theorem mSized (st dg left : Int) (size : Nat) (B L : ByteArray) (lines status x : Int) (A : Option Addr) (nb cap : Nat) (hn : nb ≤ 2048) (hs : size < 4294967296) (g : Nat) (W : World) (hB : Blk W g 185 (mC st size dg left B L lines status (.slice A nb cap))) : Calls Tryz.prog 167 #[.pointer (some ⟨g, 0, none⟩), .int .u8 x] W (McPost g (if x ≠ 10 then mC 8 0 0 0 ⟨#[]⟩ ⟨#[]⟩ 0 400 (.slice A nb cap) else if size = 0 then mC 5 0 0 0 ⟨#[]⟩ ⟨#[]⟩ lines 0 (.slice A nb cap) else if 2048 < nb + size then mC 8 0 0 0 ⟨#[]⟩ ⟨#[]⟩ 0 413 (.slice A nb cap) else mC 2 0 0 size ⟨#[]⟩ ⟨#[]⟩ lines 0 (.slice A nb cap)) W) := by
  have c1 := mFail st size dg left B L lines status (.slice A nb cap) 400 g W hB
  have c2 := mTo st size dg left B L lines status (.slice A nb cap) 5 g W hB
  have c3 := mFail st size dg left B L lines status (.slice A nb cap) 413 g W hB
  have c4 := mTo st size dg left B L lines status (.slice A nb cap) 2 g W hB
  have p1 : W.cell? ⟨g, 1, none⟩ = some (.int .i64 (size : Int)) := hB.cell 1
  have p8 : W.cell? ⟨g, 8, none⟩ = some (.slice A nb cap) := hB.cell 8
  have C1 := Lib.hid c1
  have C2 := Lib.hid c2
  have C3 := Lib.hid c3
  have C4 := Lib.hid c4
  clear c1 c2 c3 c4 hB
  by_cases h1 : x = 10
  · rw [if_neg (by simp [h1])]
    have e1 : (x != 10) = false := by simp [h1]
    have H1 := Lib.hid h1
    clear h1
    by_cases h2 : size = 0
    · rw [if_pos h2]
      have e2 : ((size : Int) == 0) = true := by rw [beq_iff_eq]; omega
      clear h2
      go_enter Tryz.func167, Tryz.ntmps167
      go_wp2_with fail
      (with_reducible refine (C2.out).mono ?_); rintro e w2 ⟨rfl, hb, hg⟩
      go_wp2_with fail
      first | go_end0 | (refine bodyPost_ret (results_none rfl _ _ _) rfl ?_)
      exact ⟨rfl, hb, hg⟩
    · rw [if_neg h2]
      have e2 : ((size : Int) == 0) = false := by rw [beq_eq_false_iff_ne]; omega
      by_cases h3 : 2048 < nb + size
      · rw [if_pos h3]
        have e3 : decide ((2048 : Int) < (nb : Int) + (size : Int)) = true := by simp; omega
        have e4 : (2048 : Int) < (nb : Int) + (size : Int) := by omega
        clear h2 h3
        go_enter Tryz.func167, Tryz.ntmps167
        go_wp2_with fail
        (with_reducible refine (C3.out).mono ?_); rintro e w2 ⟨rfl, hb, hg⟩
        go_wp2_with fail
        first | go_end0 | (refine bodyPost_ret (results_none rfl _ _ _) rfl ?_)
        exact ⟨rfl, hb, hg⟩
      · rw [if_neg h3]
        have e3 : decide ((2048 : Int) < (nb : Int) + (size : Int)) = false := by simp; omega
        have e4 : (nb : Int) + (size : Int) ≤ 2048 := by omega
        clear h2 h3
        go_enter Tryz.func167, Tryz.ntmps167
        go_wp2_with fail
        (with_reducible refine (C4.out).mono ?_); rintro e w2 ⟨rfl, hb, hg⟩
        have q3 : w2.cell? ⟨g, 3, none⟩ = some (.int .i64 0) := hb.cell 3
        have f3 : w2.frozen? ⟨g, 3, none⟩ = false := hb.frozen 3
        have HB := Lib.hid hb
        have HG := Lib.hid hg
        clear hb hg
        go_wp2_with fail
        first | go_end0 | (refine bodyPost_ret (results_none rfl _ _ _) rfl ?_)
        have b := HB.out.set_ 3 (.int .i64 (size : Int))
        have e : (mC 2 0 0 0 ⟨#[]⟩ ⟨#[]⟩ lines 0 (.slice A nb cap)).setIfInBounds 3 (.int .i64 (size : Int)) = mC 2 0 0 size ⟨#[]⟩ ⟨#[]⟩ lines 0 (.slice A nb cap) := by simp [mC]
        rw [e] at b
        exact ⟨rfl, b, Lib.grownBy_setB HG.out 3 _⟩
  · rw [if_pos h1]
    have e1 : (x != 10) = true := by simp [h1]
    clear h1
    go_enter Tryz.func167, Tryz.ntmps167
    go_wp2_with fail
    (with_reducible refine (C1.out).mono ?_); rintro e w2 ⟨rfl, hb, hg⟩
    go_wp2_with fail
    first | go_end0 | (refine bodyPost_ret (results_none rfl _ _ _) rfl ?_)
    exact ⟨rfl, hb, hg⟩
end

section
open Go.RowKit

theorem emp_t' {s : ByteArray} (h : s.size = 0) : s.toList.isEmpty = true := by
  have e : s = ⟨#[]⟩ := by
    apply ByteArray.ext
    exact Array.eq_empty_of_size_eq_zero h
  rw [e]; decide +kernel
theorem emp_f' {s : ByteArray} (h : ¬ s.size = 0) : s.toList.isEmpty = false := by
  rw [Lib.toList_data, List.isEmpty_eq_false_iff]; intro e; exact h (by rw [← size_l, e]; rfl)
set_option maxRecDepth 100000 in
set_option maxHeartbeats 4000000 in
theorem mLast (st size dg left : Int) (B L : ByteArray) (lines : Nat) (status x : Int) (v : Value) (hL : L.size ≤ 1000) (hl : lines ≤ 32) (g : Nat) (W : World) (hB : Blk W g 185 (mC st size dg left B L lines status v)) : Calls Tryz.prog 172 #[.pointer (some ⟨g, 0, none⟩), .int .u8 x] W (McPost g (if x ≠ 10 then mC 8 0 0 0 ⟨#[]⟩ ⟨#[]⟩ 0 400 v else if L.size = 0 then mC 7 0 0 0 ⟨#[]⟩ ⟨#[]⟩ lines 0 v else if (colT L.data.toList).2.2 ≠ 0 then mC 8 0 0 0 ⟨#[]⟩ ⟨#[]⟩ 0 400 v else mC 5 0 0 0 ⟨#[]⟩ ⟨#[]⟩ (lines + 1 : Nat) 0 v) W) := by
  have cT := TColon_any L W (by omega)
  obtain ⟨⟨c0, c1, E⟩, hE⟩ : ∃ z, colT L.data.toList = z := ⟨_, rfl⟩
  rw [hE] at cT ⊢
  simp only at cT ⊢
  have p5 : W.cell? ⟨g, 5, none⟩ = some (.string L) := hB.cell 5
  have CT := Lib.hid cT
  have HB := Lib.hid hB
  clear cT hB hE
  by_cases h1 : x = 10
  · rw [if_neg (by simp [h1])]
    have e1 : (x != 10) = false := by simp [h1]
    clear h1
    by_cases h2 : L.size = 0
    · rw [if_pos h2]
      have hem : L.toList.isEmpty = true := emp_t' h2
      have hem2 : L.toList = [] := List.isEmpty_iff.1 hem
      clear h2
      go_enter Tryz.func172, Tryz.ntmps172
      go_wp2_with fail
      (with_reducible refine (CT.out).mono ?_); rintro e w1 ⟨rfl, g1⟩
      have HB := Lib.hid (HB.out.below g1 HB.out.lt)
      have HG := Lib.hid (Lib.grownBy_below (World.grownBy.refl W (some g)) g1)
      clear g1 p5
      have C := Lib.hid (mTo st size dg left B L lines status v 7 g w1 HB.out)
      go_wp2_with fail
      (with_reducible refine (C.out).mono ?_); rintro e w2 ⟨rfl, hb, hg⟩
      go_wp2_with fail
      first | go_end0 | (refine bodyPost_ret (results_none rfl _ _ _) rfl ?_)
      exact ⟨rfl, hb, Lib.grownBy_trans HG.out hg⟩
    · rw [if_neg h2]
      have hem : L.toList.isEmpty = false := emp_f' h2
      have hem2 : ¬ L.toList = [] := fun e => by rw [e] at hem; cases hem
      clear h2
      by_cases h3 : E = 0
      · rw [if_neg (by simp [h3])]
        have e3 : ((E : Int) != 0) = false := by simp [h3]
        clear h3
        go_enter Tryz.func172, Tryz.ntmps172
        go_wp2_with fail
        (with_reducible refine (CT.out).mono ?_); rintro e w1 ⟨rfl, g1⟩
        have HB := Lib.hid (HB.out.below g1 HB.out.lt)
        have HG := Lib.hid (Lib.grownBy_below (World.grownBy.refl W (some g)) g1)
        clear g1 p5
        have C := Lib.hid (mTo st size dg left B L lines status v 5 g w1 HB.out)
        go_wp2_with fail
        (with_reducible refine (C.out).mono ?_); rintro e w2 ⟨rfl, hb, hg⟩
        have q6 : w2.cell? ⟨g, 6, none⟩ = some (.int .i64 (lines : Int)) := hb.cell 6
        have f6 : w2.frozen? ⟨g, 6, none⟩ = false := hb.frozen 6
        have hwl : IntKind.i64.wrap ((lines : Int) + 1) = ((lines + 1 : Nat) : Int) := by rw [IntKind.wrap_i64]; omega
        have HB2 := Lib.hid hb
        have HG2 := Lib.hid hg
        clear hb hg
        go_wp2_with fail
        first | go_end0 | (refine bodyPost_ret (results_none rfl _ _ _) rfl ?_)
        have b := HB2.out.set_ 6 (.int .i64 ((lines + 1 : Nat) : Int))
        have e : (mC 5 0 0 0 ⟨#[]⟩ ⟨#[]⟩ lines 0 v).setIfInBounds 6 (.int .i64 ((lines + 1 : Nat) : Int)) = mC 5 0 0 0 ⟨#[]⟩ ⟨#[]⟩ (lines + 1 : Nat) 0 v := by simp [mC]
        rw [e] at b
        exact ⟨rfl, b, Lib.grownBy_setB (Lib.grownBy_trans HG.out HG2.out) 6 _⟩
      · rw [if_pos h3]
        have e3 : ((E : Int) != 0) = true := by rw [bne_iff_ne]; omega
        clear h3
        go_enter Tryz.func172, Tryz.ntmps172
        go_wp2_with fail
        (with_reducible refine (CT.out).mono ?_); rintro e w1 ⟨rfl, g1⟩
        have HB := Lib.hid (HB.out.below g1 HB.out.lt)
        have HG := Lib.hid (Lib.grownBy_below (World.grownBy.refl W (some g)) g1)
        clear g1 p5
        have C := Lib.hid (mFail st size dg left B L lines status v 400 g w1 HB.out)
        go_wp2_with fail
        (with_reducible refine (C.out).mono ?_); rintro e w2 ⟨rfl, hb, hg⟩
        go_wp2_with fail
        first | go_end0 | (refine bodyPost_ret (results_none rfl _ _ _) rfl ?_)
        exact ⟨rfl, hb, Lib.grownBy_trans HG.out hg⟩
  · rw [if_pos h1]
    have e1 : (x != 10) = true := by simp [h1]
    clear h1
    go_enter Tryz.func172, Tryz.ntmps172
    go_wp2_with fail
    (with_reducible refine (CT.out).mono ?_); rintro e w1 ⟨rfl, g1⟩
    have HB := Lib.hid (HB.out.below g1 HB.out.lt)
    have HG := Lib.hid (Lib.grownBy_below (World.grownBy.refl W (some g)) g1)
    clear g1 p5
    have C := Lib.hid (mFail st size dg left B L lines status v 400 g w1 HB.out)
    go_wp2_with fail
    (with_reducible refine (C.out).mono ?_); rintro e w2 ⟨rfl, hb, hg⟩
    go_wp2_with fail
    first | go_end0 | (refine bodyPost_ret (results_none rfl _ _ _) rfl ?_)
    exact ⟨rfl, hb, Lib.grownBy_trans HG.out hg⟩
end

section
open Go.RowKit

private theorem emp_tt {s : ByteArray} (h : s.size = 0) : s.toList.isEmpty = true := by
  have e : s = ⟨#[]⟩ := by
    apply ByteArray.ext
    exact Array.eq_empty_of_size_eq_zero h
  rw [e]; decide +kernel
private theorem emp_ff {s : ByteArray} (h : ¬ s.size = 0) : s.toList.isEmpty = false := by
  rw [Lib.toList_data, List.isEmpty_eq_false_iff]; intro e; exact h (by rw [← size_l, e]; rfl)
set_option maxRecDepth 100000 in
set_option maxHeartbeats 4000000 in
theorem mTrailer (st size dg left : Int) (B L : ByteArray) (lines : Nat) (status : Int) (x : UInt8) (v : Value) (hL : L.size ≤ 1000) (hl : lines ≤ 32) (g : Nat) (W : World) (hB : Blk W g 185 (mC st size dg left B L lines status v)) : Calls Tryz.prog 171 #[.pointer (some ⟨g, 0, none⟩), .int .u8 (x.toNat : Int)] W (McPost g (if x = 13 then mC 6 size dg left B L lines status v else if x = 10 then mC 8 0 0 0 ⟨#[]⟩ ⟨#[]⟩ 0 400 v else if (L.size = 0 ∧ lines = 32) ∨ L.size = 512 then mC 8 0 0 0 ⟨#[]⟩ ⟨#[]⟩ 0 431 v else mC st size dg left B (L ++ ⟨#[x]⟩) lines status v) W) := by
  have c1 := mFail st size dg left B L lines status v 400 g W hB
  have c2 := mFail st size dg left B L lines status v 431 g W hB
  have p0 : W.cell? ⟨g, 0, none⟩ = some (.int .i64 st) := hB.cell 0
  have p5 : W.cell? ⟨g, 5, none⟩ = some (.string L) := hB.cell 5
  have p6 : W.cell? ⟨g, 6, none⟩ = some (.int .i64 lines) := hB.cell 6
  have f0 : W.frozen? ⟨g, 0, none⟩ = false := hB.frozen 0
  have f5 : W.frozen? ⟨g, 5, none⟩ = false := hB.frozen 5
  have C1 := Lib.hid c1
  have C2 := Lib.hid c2
  have HB := Lib.hid hB
  clear c1 c2 hB
  by_cases h1 : x = 13
  · rw [if_pos h1]
    subst h1
    have e1 : (((13 : UInt8).toNat : Int) == 13) = true := rfl
    go_enter Tryz.func171, Tryz.ntmps171
    go_wp2_with fail
    go_end0
    have b := HB.out.set_ 0 (.int .i64 6)
    have e : (mC st size dg left B L lines status v).setIfInBounds 0 (.int .i64 6) = mC 6 size dg left B L lines status v := by simp [mC]
    rw [e] at b
    exact ⟨rfl, b, Lib.grownBy_setB (World.grownBy.refl W (some g)) 0 _⟩
  · rw [if_neg h1]
    have n1 : ¬ x.toNat = 13 := fun e => h1 (UInt8.toNat_inj.1 e)
    have e1 : ((x.toNat : Int) == 13) = false := by rw [beq_eq_false_iff_ne]; omega
    clear h1
    by_cases h3 : x = 10
    · rw [if_pos h3]
      subst h3
      have e2 : (((10 : UInt8).toNat : Int) == 10) = true := rfl
      go_enter Tryz.func171, Tryz.ntmps171
      go_wp2_with fail
      (with_reducible refine (C1.out).mono ?_); rintro e w2 ⟨rfl, hb, hg⟩
      go_wp2_with fail
      first | go_end0 | (refine bodyPost_ret (results_none rfl _ _ _) rfl ?_)
      exact ⟨rfl, hb, hg⟩
    · rw [if_neg h3]
      have n2 : ¬ x.toNat = 10 := fun e => h3 (UInt8.toNat_inj.1 e)
      have e2 : ((x.toNat : Int) == 10) = false := by rw [beq_eq_false_iff_ne]; omega
      clear h3
      have x1 : (0 : Int) ≤ (x.toNat : Int) := by omega
      have x2 : (x.toNat : Int) ≤ 255 := by have := x.toNat_lt; omega
      have ex : UInt8.ofNat ((x.toNat : Int)).toNat = x := by simp
      have hcv : ∀ (q : World) (cap : Nat), q.cell? ⟨W.heap.size, 0, none⟩ = some (.int .u8 (x.toNat : Int)) → (convert 50 9 (.slice (some ⟨W.heap.size, 0, none⟩) 1 cap)).run Tryz.prog q = .ok (.string ⟨#[x]⟩) q := fun q cap hq => run_convert_bytes_back (P := Tryz.prog) q 50 9 5 ⟨W.heap.size, 0, none⟩ cap [x] Tryz.underlying50 Tryz.underlying5 Tryz.underlying9 (fun j hj => by
        have : j = 0 := by simpa using hj
        subst this
        exact hq)
      have CV := hcv
      clear hcv
      generalize (x.toNat : Int) = X at *
      by_cases h4 : (L.size = 0 ∧ lines = 32) ∨ L.size = 512
      · rw [if_pos h4]
        by_cases h5 : L.size = 512
        · have e5 : ((L.size : Int) == 512) = true := by rw [beq_iff_eq]; omega
          have hem : L.toList.isEmpty = false := emp_ff (by omega)
          have hem2 : ¬ L.toList = [] := fun e => by rw [e] at hem; cases hem
          clear h4 h5
          go_enter Tryz.func171, Tryz.ntmps171
          go_wp2_with fail
          (with_reducible refine (C2.out).mono ?_); rintro e w2 ⟨rfl, hb, hg⟩
          go_wp2_with fail
          first | go_end0 | (refine bodyPost_ret (results_none rfl _ _ _) rfl ?_)
          exact ⟨rfl, hb, hg⟩
        · obtain ⟨h6, h7⟩ : L.size = 0 ∧ lines = 32 := by omega
          have hem : L.toList.isEmpty = true := emp_tt h6
          have hem2 : L.toList = [] := List.isEmpty_iff.1 hem
          have e5 : ((L.size : Int) == 512) = false := by rw [beq_eq_false_iff_ne]; omega
          have e6 : (((lines : Nat) : Int) == 32) = true := by rw [beq_iff_eq]; omega
          clear h4 h5 h6 h7
          go_enter Tryz.func171, Tryz.ntmps171
          go_wp2_with fail
          (with_reducible refine (C2.out).mono ?_); rintro e w2 ⟨rfl, hb, hg⟩
          go_wp2_with fail
          first | go_end0 | (refine bodyPost_ret (results_none rfl _ _ _) rfl ?_)
          exact ⟨rfl, hb, hg⟩
      · rw [if_neg h4]
        have e5 : ((L.size : Int) == 512) = false := by rw [beq_eq_false_iff_ne]; omega
        have s1 : ¬ 9223372036854775806 < L.size := by omega
        have s2 : ¬ 9223372036854775807 < L.size + 1 := by omega
        have hcv := CV
        have g1 := (Below.refl W.heap.size W).alloc (Nat.le_refl _) (.cells #[.int .u8 X] 5)
        have hA := HB.out.below g1 HB.out.lt
        have q5 := hA.cell 5
        have k5 := hA.frozen 5
        simp only [mC] at q5
        have HA := Lib.hid hA
        have HG := Lib.hid (Lib.grownBy_allocR (World.grownBy.refl W (some g)) (.cells #[.int .u8 X] 5))
        clear hA g1
        by_cases h6 : L.size = 0
        · have hem : L.toList.isEmpty = true := emp_tt h6
          have hem2 : L.toList = [] := List.isEmpty_iff.1 hem
          have e6 : (((lines : Nat) : Int) == 32) = false := by rw [beq_eq_false_iff_ne]; omega
          clear h4 h6
          go_enter Tryz.func171, Tryz.ntmps171
          go_wp2_with fail
          go_region
          all_goals (
            go_wp2_with fail
            first | go_end0 | (refine bodyPost_ret (results_none rfl _ _ _) rfl ?_)
            have b := HA.out.set_ 5 (.string (L ++ ⟨#[x]⟩))
            have e : (mC st size dg left B L lines status v).setIfInBounds 5 (.string (L ++ ⟨#[x]⟩)) = mC st size dg left B (L ++ ⟨#[x]⟩) lines status v := by simp [mC]
            rw [e] at b
            exact ⟨rfl, Blk.drew b, only_drew (Lib.grownBy_setB HG.out 5 _)⟩)
        · have hem : L.toList.isEmpty = false := emp_ff h6
          have hem2 : ¬ L.toList = [] := fun e => by rw [e] at hem; cases hem
          clear h4 h6
          go_enter Tryz.func171, Tryz.ntmps171
          go_wp2_with fail
          go_region
          all_goals (
            go_wp2_with fail
            first | go_end0 | (refine bodyPost_ret (results_none rfl _ _ _) rfl ?_)
            have b := HA.out.set_ 5 (.string (L ++ ⟨#[x]⟩))
            have e : (mC st size dg left B L lines status v).setIfInBounds 5 (.string (L ++ ⟨#[x]⟩)) = mC st size dg left B (L ++ ⟨#[x]⟩) lines status v := by simp [mC]
            rw [e] at b
            exact ⟨rfl, Blk.drew b, only_drew (Lib.grownBy_setB HG.out 5 _)⟩)
end

section
open Go.RowKit

set_option maxRecDepth 100000 in
set_option maxHeartbeats 8000000 in
theorem mSize0 (d : Int) (st left : Int) (size dg : Nat) (B L : ByteArray) (lines status : Int) (x : UInt8) (v : Value) (hd : -1 ≤ d ∧ d ≤ 15) (hs : size < 4294967296) (hdg : dg ≤ 8) (g : Nat) (W : World) (hB : Blk W g 185 (mC st size dg left B L lines status v))
    (hV : Calls Tryz.prog 185 #[.int .u8 (x.toNat : Int)] W fun e w' => e = .returned (.int .i64 d) ∧ Below W.heap.size W w') :
    Calls Tryz.prog 166 #[.pointer (some ⟨g, 0, none⟩), .int .u8 (x.toNat : Int)] W (McPost g (if 0 ≤ d ∧ dg < 8 then mC st (16 * (size : Int) + d) (dg + 1 : Nat) left B L lines status v else if x = 13 ∧ 0 < dg then mC 1 size dg left B L lines status v else mC 8 0 0 0 ⟨#[]⟩ ⟨#[]⟩ 0 400 v) W) := by
  have HV := Lib.hid hV
  have HB := Lib.hid hB
  clear hV hB
  obtain ⟨X, hX⟩ : ∃ X, (x.toNat : Int) = X := ⟨_, rfl⟩
  rw [hX] at HV ⊢

  by_cases h1 : 0 ≤ d
  · have e1 : decide ((0 : Int) ≤ d) = true := by simp [h1]
    by_cases h2 : dg < 8
    · rw [if_pos ⟨h1, h2⟩]
      have e2 : decide ((dg : Int) < 8) = true := by simp; omega
      have e3 : (dg : Int) < 8 := by omega
      have m1 : IntKind.i64.wrap (16 * (size : Int)) = 16 * (size : Int) := by rw [IntKind.wrap_i64]; omega
      have m2 : IntKind.i64.wrap (16 * (size : Int) + d) = 16 * (size : Int) + d := by rw [IntKind.wrap_i64]; omega
      have m3 : IntKind.i64.wrap ((dg : Int) + 1) = ((dg + 1 : Nat) : Int) := by rw [IntKind.wrap_i64]; omega
      generalize ((dg + 1 : Nat) : Int) = D1 at *
      go_enter Tryz.func166, Tryz.ntmps166
      go_wp2_with fail
      (with_reducible refine (HV.out).mono ?_); rintro e w1 ⟨rfl, g1⟩
      have hB := HB.out.below g1 HB.out.lt
      have HG := Lib.hid (Lib.grownBy_below (World.grownBy.refl W (some g)) g1)
      have c1 := mFail st size dg left B L lines status v 400 g w1 hB
      have p1 : w1.cell? ⟨g, 1, none⟩ = some (.int .i64 size) := hB.cell 1
      have p2 : w1.cell? ⟨g, 2, none⟩ = some (.int .i64 dg) := hB.cell 2
      have p0 : w1.cell? ⟨g, 0, none⟩ = some (.int .i64 st) := hB.cell 0
      have f0 : w1.frozen? ⟨g, 0, none⟩ = false := hB.frozen 0
      have f1 : w1.frozen? ⟨g, 1, none⟩ = false := hB.frozen 1
      have f2 : w1.frozen? ⟨g, 2, none⟩ = false := hB.frozen 2
      have HB1 := Lib.hid hB
      have C1 := Lib.hid c1
      clear c1 hB g1
      go_wp2_with fail
      go_region
      all_goals (
        go_wp2_with fail
        first | go_end0 | (refine bodyPost_ret (results_none rfl _ _ _) rfl ?_)
        have b := (HB1.out.set_ 1 (.int .i64 (16 * (size : Int) + d))).set_ 2 (.int .i64 D1)
        have e : ((mC st size dg left B L lines status v).setIfInBounds 1 (.int .i64 (16 * (size : Int) + d))).setIfInBounds 2 (.int .i64 D1) = mC st (16 * (size : Int) + d) D1 left B L lines status v := by simp [mC]
        rw [e] at b
        exact ⟨rfl, Blk.drew b, only_drew (Lib.grownBy_setB (Lib.grownBy_setB HG.out 1 _) 2 _)⟩)
    · rw [if_neg (fun h => h2 h.2)]
      have e2 : decide ((dg : Int) < 8) = false := by simp; omega
      have e3 : (8 : Int) ≤ (dg : Int) := by omega
      by_cases h3 : x = 13
      · rw [if_pos ⟨h3, by omega⟩]
        have e4 : (X == 13) = true := by rw [← hX, h3]; rfl
        have e5 : decide ((0 : Int) < (dg : Int)) = true := by simp; omega
        clear h2
        go_enter Tryz.func166, Tryz.ntmps166
        go_wp2_with fail
        (with_reducible refine (HV.out).mono ?_); rintro e w1 ⟨rfl, g1⟩
        have hB := HB.out.below g1 HB.out.lt
        have HG := Lib.hid (Lib.grownBy_below (World.grownBy.refl W (some g)) g1)
        have c1 := mFail st size dg left B L lines status v 400 g w1 hB
        have p1 : w1.cell? ⟨g, 1, none⟩ = some (.int .i64 size) := hB.cell 1
        have p2 : w1.cell? ⟨g, 2, none⟩ = some (.int .i64 dg) := hB.cell 2
        have p0 : w1.cell? ⟨g, 0, none⟩ = some (.int .i64 st) := hB.cell 0
        have f0 : w1.frozen? ⟨g, 0, none⟩ = false := hB.frozen 0
        have f1 : w1.frozen? ⟨g, 1, none⟩ = false := hB.frozen 1
        have f2 : w1.frozen? ⟨g, 2, none⟩ = false := hB.frozen 2
        have HB1 := Lib.hid hB
        have C1 := Lib.hid c1
        clear c1 hB g1
        go_wp2_with fail
        first | go_end0 | (refine bodyPost_ret (results_none rfl _ _ _) rfl ?_)
        have b := HB1.out.set_ 0 (.int .i64 1)
        have e : (mC st size dg left B L lines status v).setIfInBounds 0 (.int .i64 1) = mC 1 size dg left B L lines status v := by simp [mC]
        rw [e] at b
        exact ⟨rfl, b, Lib.grownBy_setB HG.out 0 _⟩
      · rw [if_neg (fun h => h3 h.1)]
        have n1 : ¬ x.toNat = 13 := fun e => h3 (UInt8.toNat_inj.1 e)
        have e4 : (X == 13) = false := by rw [← hX, beq_eq_false_iff_ne]; omega
        clear h3 h2
        go_enter Tryz.func166, Tryz.ntmps166
        go_wp2_with fail
        (with_reducible refine (HV.out).mono ?_); rintro e w1 ⟨rfl, g1⟩
        have hB := HB.out.below g1 HB.out.lt
        have HG := Lib.hid (Lib.grownBy_below (World.grownBy.refl W (some g)) g1)
        have c1 := mFail st size dg left B L lines status v 400 g w1 hB
        have p1 : w1.cell? ⟨g, 1, none⟩ = some (.int .i64 size) := hB.cell 1
        have p2 : w1.cell? ⟨g, 2, none⟩ = some (.int .i64 dg) := hB.cell 2
        have p0 : w1.cell? ⟨g, 0, none⟩ = some (.int .i64 st) := hB.cell 0
        have f0 : w1.frozen? ⟨g, 0, none⟩ = false := hB.frozen 0
        have f1 : w1.frozen? ⟨g, 1, none⟩ = false := hB.frozen 1
        have f2 : w1.frozen? ⟨g, 2, none⟩ = false := hB.frozen 2
        have HB1 := Lib.hid hB
        have C1 := Lib.hid c1
        clear c1 hB g1
        go_wp2_with fail
        (with_reducible refine (C1.out).mono ?_); rintro e w2 ⟨rfl, hb, hg⟩
        go_wp2_with fail
        first | go_end0 | (refine bodyPost_ret (results_none rfl _ _ _) rfl ?_)
        exact ⟨rfl, hb, Lib.grownBy_trans HG.out hg⟩
  · rw [if_neg (fun h => h1 h.1)]
    have e1 : decide ((0 : Int) ≤ d) = false := by simp; omega
    have e1' : d < 0 := by omega
    clear h1
    by_cases h3 : x = 13
    · have e4 : (X == 13) = true := by rw [← hX, h3]; rfl
      by_cases h4 : 0 < dg
      · rw [if_pos ⟨h3, h4⟩]
        have e5 : decide ((0 : Int) < (dg : Int)) = true := by simp; omega
        have e6 : (0 : Int) < (dg : Int) := by omega
        go_enter Tryz.func166, Tryz.ntmps166
        go_wp2_with fail
        (with_reducible refine (HV.out).mono ?_); rintro e w1 ⟨rfl, g1⟩
        have hB := HB.out.below g1 HB.out.lt
        have HG := Lib.hid (Lib.grownBy_below (World.grownBy.refl W (some g)) g1)
        have c1 := mFail st size dg left B L lines status v 400 g w1 hB
        have p1 : w1.cell? ⟨g, 1, none⟩ = some (.int .i64 size) := hB.cell 1
        have p2 : w1.cell? ⟨g, 2, none⟩ = some (.int .i64 dg) := hB.cell 2
        have p0 : w1.cell? ⟨g, 0, none⟩ = some (.int .i64 st) := hB.cell 0
        have f0 : w1.frozen? ⟨g, 0, none⟩ = false := hB.frozen 0
        have f1 : w1.frozen? ⟨g, 1, none⟩ = false := hB.frozen 1
        have f2 : w1.frozen? ⟨g, 2, none⟩ = false := hB.frozen 2
        have HB1 := Lib.hid hB
        have C1 := Lib.hid c1
        clear c1 hB g1
        go_wp2_with fail
        first | go_end0 | (refine bodyPost_ret (results_none rfl _ _ _) rfl ?_)
        have b := HB1.out.set_ 0 (.int .i64 1)
        have e : (mC st size dg left B L lines status v).setIfInBounds 0 (.int .i64 1) = mC 1 size dg left B L lines status v := by simp [mC]
        rw [e] at b
        exact ⟨rfl, b, Lib.grownBy_setB HG.out 0 _⟩
      · rw [if_neg (fun h => h4 h.2)]
        have e5 : decide ((0 : Int) < (dg : Int)) = false := by simp; omega
        have e6 : (dg : Int) ≤ 0 := by omega
        have e7 : decide (0 < dg) = false := by simp; omega
        have e8 : ¬ 0 < dg := h4
        have e9 : dg = 0 := by omega
        clear h4
        go_enter Tryz.func166, Tryz.ntmps166
        go_wp2_with fail
        (with_reducible refine (HV.out).mono ?_); rintro e w1 ⟨rfl, g1⟩
        have hB := HB.out.below g1 HB.out.lt
        have HG := Lib.hid (Lib.grownBy_below (World.grownBy.refl W (some g)) g1)
        have c1 := mFail st size dg left B L lines status v 400 g w1 hB
        have p1 : w1.cell? ⟨g, 1, none⟩ = some (.int .i64 size) := hB.cell 1
        have p2 : w1.cell? ⟨g, 2, none⟩ = some (.int .i64 dg) := hB.cell 2
        have p0 : w1.cell? ⟨g, 0, none⟩ = some (.int .i64 st) := hB.cell 0
        have f0 : w1.frozen? ⟨g, 0, none⟩ = false := hB.frozen 0
        have f1 : w1.frozen? ⟨g, 1, none⟩ = false := hB.frozen 1
        have f2 : w1.frozen? ⟨g, 2, none⟩ = false := hB.frozen 2
        have HB1 := Lib.hid hB
        have C1 := Lib.hid c1
        clear c1 hB g1
        go_wp2_with fail
        (with_reducible refine (C1.out).mono ?_); rintro e w2 ⟨rfl, hb, hg⟩
        go_wp2_with fail
        first | go_end0 | (refine bodyPost_ret (results_none rfl _ _ _) rfl ?_)
        exact ⟨rfl, hb, Lib.grownBy_trans HG.out hg⟩
    · rw [if_neg (fun h => h3 h.1)]
      have n1 : ¬ x.toNat = 13 := fun e => h3 (UInt8.toNat_inj.1 e)
      have e4 : (X == 13) = false := by rw [← hX, beq_eq_false_iff_ne]; omega
      clear h3
      go_enter Tryz.func166, Tryz.ntmps166
      go_wp2_with fail
      (with_reducible refine (HV.out).mono ?_); rintro e w1 ⟨rfl, g1⟩
      have hB := HB.out.below g1 HB.out.lt
      have HG := Lib.hid (Lib.grownBy_below (World.grownBy.refl W (some g)) g1)
      have c1 := mFail st size dg left B L lines status v 400 g w1 hB
      have p1 : w1.cell? ⟨g, 1, none⟩ = some (.int .i64 size) := hB.cell 1
      have p2 : w1.cell? ⟨g, 2, none⟩ = some (.int .i64 dg) := hB.cell 2
      have p0 : w1.cell? ⟨g, 0, none⟩ = some (.int .i64 st) := hB.cell 0
      have f0 : w1.frozen? ⟨g, 0, none⟩ = false := hB.frozen 0
      have f1 : w1.frozen? ⟨g, 1, none⟩ = false := hB.frozen 1
      have f2 : w1.frozen? ⟨g, 2, none⟩ = false := hB.frozen 2
      have HB1 := Lib.hid hB
      have C1 := Lib.hid c1
      clear c1 hB g1
      go_wp2_with fail
      (with_reducible refine (C1.out).mono ?_); rintro e w2 ⟨rfl, hb, hg⟩
      go_wp2_with fail
      first | go_end0 | (refine bodyPost_ret (results_none rfl _ _ _) rfl ?_)
      exact ⟨rfl, hb, Lib.grownBy_trans HG.out hg⟩
end

section
open Go.RowKit

theorem infoU8A : (Tryz.prog.info? 5).map (fun i => (i.zero, i.size, i.bytes)) = some (some (.int .u8 0), 1, 1) := by kernel_rfl
/-- v is a slice of a block of bytes that holds xs; none of the cells behind them is frozen -/
def BytesAt (w : World) (v : Value) (xs : List UInt8) : Prop :=
  ∃ g cap cur fz, v = .slice (some ⟨g, 0, none⟩) xs.length cap ∧ w.heap[g]? = some (.cells cur 5 fz) ∧ (fz.2 ≤ xs.length ∨ cap ≤ fz.1) ∧ xs.length ≤ cap ∧ cap ≤ maxLen ∧ cur.size = cap ∧ cur.toList.take xs.length = Lib.byteCells xs
theorem BytesAt.lt {w : World} {v : Value} {xs : List UInt8} (h : BytesAt w v xs) : ∀ k, v.ownBlock = some k → k < w.heap.size := by
  obtain ⟨g, cap, cur, fz, rfl, hg, _⟩ := h
  intro k hk
  simp [Value.ownBlock] at hk
  subst hk
  exact (Array.getElem?_eq_some_iff.1 hg).1
theorem BytesAt.kept {w w' : World} {v : Value} {xs : List UInt8} {row : Option Nat} (h : BytesAt w v xs) (hg : w.grownBy w' row) (hne : v.ownBlock ≠ row) : BytesAt w' v xs := by
  obtain ⟨g, cap, cur, fz, rfl, hgg, rest⟩ := h
  refine ⟨g, cap, cur, fz, rfl, ?_, rest⟩
  rw [hg.block g (Array.getElem?_eq_some_iff.1 hgg).1 (by simpa [Value.ownBlock] using hne)]
  exact hgg
theorem BytesAt.below {w w' : World} {v : Value} {xs : List UInt8} (h : BytesAt w v xs) (hb : Below w.heap.size w w') : BytesAt w' v xs := by
  obtain ⟨g, cap, cur, fz, rfl, hgg, rest⟩ := h
  refine ⟨g, cap, cur, fz, rfl, ?_, rest⟩
  rw [hb.block g (Array.getElem?_eq_some_iff.1 hgg).1]
  exact hgg
theorem BytesAt.drew {w : World} {v : Value} {xs : List UInt8} (h : BytesAt w v xs) : BytesAt w.drew v xs := h
theorem BytesAt.cells {w : World} {xs : List UInt8} {g n cap : Nat} (h : BytesAt w (.slice (some ⟨g, 0, none⟩) n cap) xs) : ∀ j u, (Lib.byteCells xs)[j]? = some u → w.cell? ((⟨g, 0, none⟩ : Addr).add j) = some u := by
  obtain ⟨g', cap, cur, fz, hv, hgg, _, _, _, _, htake⟩ := h
  injection hv with hv _ _
  injection hv with hv
  injection hv with hv
  subst hv
  intro j u hu
  have hadd : (⟨g, 0, none⟩ : Addr).add j = ⟨g, j, none⟩ := by unfold Addr.add; split <;> simp_all
  rw [hadd, cell_of_row w g j cur _ fz hgg]
  rw [← htake, List.getElem?_take] at hu
  split at hu
  · simpa using hu
  · cases hu
/-- it lies in no block of another kind -/
theorem BytesAt.ne {w : World} {v : Value} {xs : List UInt8} {b : Nat} {cs : Array Value} {T : TypeId} (h : BytesAt w v xs) (hb : Blk w b T cs) (hT : T ≠ 5) : v.ownBlock ≠ some b := by
  obtain ⟨g, cap, cur, fz, rfl, hg, _⟩ := h
  intro e
  simp only [Value.ownBlock, Option.some.injEq] at e
  subst e
  have hb : w.heap[g]? = _ := hb
  rw [hg] at hb
  simp only [Option.some.injEq, Obj.cells.injEq] at hb
  exact hT hb.2.1.symm
theorem byteCells_snoc (xs : List UInt8) (c : UInt8) : Lib.byteCells (xs ++ [c]) = Lib.byteCells xs ++ [.int .u8 (c.toNat : Int)] := by simp [Lib.byteCells]
theorem byteCells_len (xs : List UInt8) : (Lib.byteCells xs).length = xs.length := by simp [Lib.byteCells]

/-- 'append(v, c)' -/
theorem app_byte {w : World} {v : Value} {xs : List UInt8} (h : BytesAt w v xs) (hl : xs.length ≤ 1000000) (c : UInt8) :
    ∃ v' w', (Builtin.append_ #[50, 50] 50 #[v, .slice (some ⟨w.heap.size, 0, none⟩) 1 1]).run Tryz.prog (w.alloc (.cells #[.int .u8 (c.toNat : Int)] 5)) = .ok v' w' ∧ BytesAt w' v' (xs ++ [c]) ∧ w.grownBy w' v.ownBlock ∧ (∀ k, v'.ownBlock = some k → v.ownBlock = some k ∨ w.heap.size ≤ k) := by
  obtain ⟨i0, hi, hz0, hz1, hz2⟩ := info_parts infoU8A
  have hlt := h.lt
  have h0 := h
  obtain ⟨g, cap, cur, fz, rfl, hg, hfz, hn, hcm, hcs, htake⟩ := h
  have hgl : g < w.heap.size := hlt g rfl
  have hb1 : Below w.heap.size w (w.alloc (.cells #[.int .u8 (c.toNat : Int)] 5)) := (Below.refl _ _).alloc (Nat.le_refl _) _
  have hg1 : (w.alloc (.cells #[.int .u8 (c.toNat : Int)] 5)).heap[g]? = some (.cells cur 5 fz) := by rw [hb1.block g hgl]; exact hg
  have hnews : ∀ j u, ([Value.int .u8 (c.toNat : Int)] : List Value)[j]? = some u → (w.alloc (.cells #[.int .u8 (c.toNat : Int)] 5)).cell? ((⟨w.heap.size, 0, none⟩ : Addr).add j) = some u := fun j u hj => by
    rw [show (⟨w.heap.size, 0, none⟩ : Addr).add j = ⟨w.heap.size, j, none⟩ by unfold Addr.add; split <;> simp_all, World.cell?_alloc_new]; simpa using hj
  have h1 : ∀ u ∈ [Value.int .u8 (c.toNat : Int)], u.oneCell' = true := by intro u hu; simp at hu; subst hu; rfl
  have hxl : (Lib.byteCells xs ++ [Value.int .u8 (c.toNat : Int)]).length = (xs ++ [c]).length := by rw [← byteCells_snoc, byteCells_len]
  have hl1 : (xs ++ [c]).length = xs.length + 1 := by simp
  have hs1 := World.grownBy_alloc w (.cells #[.int .u8 (c.toNat : Int)] 5) (some g)
  generalize w.alloc (.cells #[.int .u8 (c.toNat : Int)] 5) = w1 at *
  by_cases hroom : xs.length + 1 ≤ cap
  · have hf := run_firstCells_some (P := Tryz.prog) w1 i0.size 1 ⟨w.heap.size, 0, none⟩ 1 1 [Value.int .u8 (c.toNat : Int)] (by rw [hz1]; rfl) hnews
    rw [hz1] at hf
    have hcell : w1.cell? ⟨g, xs.length, none⟩ = some (cur[xs.length]'(by omega)) := by rw [cell_of_row w1 g _ cur _ fz hg1]; exact Array.getElem?_eq_getElem (by omega)
    have hfro : w1.frozen? ⟨g, xs.length, none⟩ = false := by
      obtain ⟨lo, hi'⟩ := fz
      simp only [World.frozen?, hg1, Bool.and_eq_false_iff, decide_eq_false_iff_not]
      simp only at hfz
      omega
    have hadd : (⟨g, xs.length, none⟩ : Addr).add 0 = ⟨g, xs.length, none⟩ := by unfold Addr.add; split <;> simp_all
    have hst : (store ((⟨g, xs.length, none⟩ : Addr).add 0) (.int .u8 (c.toNat : Int))).run Tryz.prog w1 = .ok () (w1.setRow g (cur.setIfInBounds xs.length (.int .u8 (c.toNat : Int)))) := by
      rw [hadd, run_store Tryz.prog w1 _ _ _ (h1 _ (by simp)), hcell]
      simp [hfro, setCell_eq_setRow w1 g xs.length cur _ fz _ hg1]
    have hst2 : (storeCells ⟨g, xs.length, none⟩ [.int .u8 (c.toNat : Int)] 0).run Tryz.prog w1 = .ok () (w1.setRow g (cur.setIfInBounds xs.length (.int .u8 (c.toNat : Int)))) := by
      simp only [storeCells, Sem.run_bind, hst, Result.andThen_ok]
      rfl
    refine ⟨.slice (some ⟨g, 0, none⟩) (xs.length + 1) cap, w1.setRow g (cur.setIfInBounds xs.length (.int .u8 (c.toNat : Int))), ?_, ⟨g, cap, _, fz, by rw [hl1], setRow_heap w1 g cur _ _ _ hg1, ?_, by omega, hcm, by simp [hcs], ?_⟩, ?_⟩
    · simp [Builtin.append_, run_underlying Tryz.underlying50, sizeOf, typeInfo, hi, Builtin.lenOf, hroom, hf, hz1, Addr.add_lit, hst2]
    · omega
    · have e1 : (cur.setIfInBounds xs.length (Value.int .u8 (c.toNat : Int))).toList = cur.toList.set xs.length (.int .u8 (c.toNat : Int)) := Array.toList_setIfInBounds ..
      have e2 : (cur.toList.set xs.length (Value.int .u8 (c.toNat : Int)))[xs.length]? = some (.int .u8 (c.toNat : Int)) := List.getElem?_set_self (by simp; omega)
      rw [byteCells_snoc, ← htake, hl1, e1, List.take_add_one, List.take_set_of_le (Nat.le_refl _), e2]
      rfl
    · refine ⟨?_, fun k hk => .inl hk⟩
      show w.grownBy _ (some g)
      exact Lib.grownBy_trans hs1 ⟨rfl, rfl, rfl, by simp, fun k _ hk => setRow_other w1 g k _ (fun e => hk (by simp [e]))⟩
  · have hr := run_append_grow (P := Tryz.prog) w1 50 50 5 i0 (.int .u8 0) Tryz.underlying50 hi hz0 ⟨g, 0, none⟩ xs.length cap (Lib.byteCells xs) (by rw [hz1, byteCells_len, Nat.mul_one]) (BytesAt.cells (n := xs.length) (cap := cap) ⟨g, cap, cur, fz, rfl, hg1, hfz, hn, hcm, hcs, htake⟩) ⟨w.heap.size, 0, none⟩ 1 1 [.int .u8 (c.toNat : Int)] (by rw [hz1]; rfl) hnews (by omega) (by omega) (growslice_fits (by omega) (by rw [hz2]; omega))
    have hge := grownCap_ge w1 (xs.length + 1) cap 5
    have hcm2 : grownCap w1 (xs.length + 1) cap 5 ≤ maxLen := grownCap_le_maxLen w1 (xs.length + 1) cap 5 (by unfold maxLen; omega)
    refine ⟨_, _, hr, ⟨w1.heap.size, _, _, (0, 0), by rw [hl1], heap_alloc_new w1.drew _, .inl (Nat.zero_le _), by omega, hcm2, ?_, ?_⟩, ?_⟩
    · simp only [Array.size_append, List.size_toArray, size_zeroCells, byteCells_len, List.length_singleton]
      simp [Value.cells]
      omega
    · simp only [Array.toList_append, ← byteCells_snoc]
      rw [← byteCells_len (xs ++ [c])]
      exact List.take_left
    · refine ⟨?_, fun k hk => .inr (by have hs := hs1.size; simp [Value.ownBlock] at hk; omega)⟩
      show w.grownBy _ (some g)
      exact Lib.grownBy_trans hs1 ⟨rfl, rfl, rfl, by simp, fun k hk _ => heap_alloc_old w1.drew _ hk⟩
end

section
open Go.RowKit

theorem Blk.grownBy {w w' : World} {g : Nat} {t : TypeId} {cs : Array Value} {row : Option Nat} (h : Blk w g t cs) (hg : w.grownBy w' row) (hne : row ≠ some g) : Blk w' g t cs := by
  show w'.heap[g]? = _
  rw [hg.block g h.lt (fun e => hne e.symm)]
  exact h
theorem BytesAt.shape {w : World} {v : Value} {xs : List UInt8} (h : BytesAt w v xs) : ∃ g cap, v = .slice (some ⟨g, 0, none⟩) xs.length cap := by
  obtain ⟨g, cap, cur, fz, rfl, _⟩ := h
  exact ⟨g, cap, rfl⟩
set_option maxRecDepth 100000 in
set_option maxHeartbeats 8000000 in
theorem mData (st size dg : Int) (left : Nat) (B L : ByteArray) (lines status : Int) (x : UInt8) (v : Value) (xs : List UInt8) (hl1 : 1 ≤ left) (hl2 : left ≤ 2048) (hx : xs.length ≤ 1000000) (g : Nat) (W : World) (hB : Blk W g 185 (mC st size dg left B L lines status v)) (hV : BytesAt W v xs) :
    Calls Tryz.prog 168 #[.pointer (some ⟨g, 0, none⟩), .int .u8 (x.toNat : Int)] W fun e w' => e = .returned (.tuple #[]) ∧ ∃ v' w5, BytesAt w' v' (xs ++ [x]) ∧ Blk w' g 185 (if left = 1 then mC 3 0 0 0 ⟨#[]⟩ ⟨#[]⟩ lines 0 v' else mC st size dg ((left - 1 : Nat) : Int) B L lines status v') ∧ W.grownBy w5 v.ownBlock ∧ w5.grownBy w' (some g) ∧ (∀ k, v'.ownBlock = some k → v.ownBlock = some k ∨ W.heap.size ≤ k) := by
  have hne := hV.ne hB (by decide)
  obtain ⟨v', w5, hrun, hba, hg, hkk⟩ := app_byte hV hx x
  have HK := Lib.hid hkk
  clear hkk
  obtain ⟨g7, cap7, hv7⟩ := hba.shape
  rw [List.length_append, List.length_singleton] at hv7
  subst hv7
  obtain ⟨g6, cap6, rfl⟩ := hV.shape
  have p8 : W.cell? ⟨g, 8, none⟩ = some (.slice (some ⟨g6, 0, none⟩) xs.length cap6) := hB.cell 8
  have hB5 := hB.grownBy hg hne
  have hne5 := hba.ne hB5 (by decide)
  have q8 : w5.cell? ⟨g, 8, none⟩ = some (.slice (some ⟨g6, 0, none⟩) xs.length cap6) := hB5.cell 8
  have q3 : w5.cell? ⟨g, 3, none⟩ = some (.int .i64 (left : Int)) := hB5.cell 3
  have f8 : w5.frozen? ⟨g, 8, none⟩ = false := hB5.frozen 8
  have f3 : w5.frozen? ⟨g, 3, none⟩ = false := hB5.frozen 3
  have hw1 : IntKind.i64.wrap ((left : Int) - 1) = ((left - 1 : Nat) : Int) := by rw [IntKind.wrap_i64]; omega
  have b := (hB5.set_ 8 (.slice (some ⟨g7, 0, none⟩) (xs.length + 1) cap7)).set_ 3 (.int .i64 ((left - 1 : Nat) : Int))
  have e : ((mC st size dg left B L lines status (.slice (some ⟨g6, 0, none⟩) xs.length cap6)).setIfInBounds 8 (.slice (some ⟨g7, 0, none⟩) (xs.length + 1) cap7)).setIfInBounds 3 (.int .i64 ((left - 1 : Nat) : Int)) = mC st size dg ((left - 1 : Nat) : Int) B L lines status (.slice (some ⟨g7, 0, none⟩) (xs.length + 1) cap7) := by simp [mC]
  rw [e] at b
  have gr : w5.grownBy ((w5.setCell ⟨g, 8, none⟩ (.slice (some ⟨g7, 0, none⟩) (xs.length + 1) cap7)).setCell ⟨g, 3, none⟩ (.int .i64 ((left - 1 : Nat) : Int))) (some g) := Lib.grownBy_setB (Lib.grownBy_setB (World.grownBy.refl w5 (some g)) 8 _) 3 _
  have hba2 := hba.kept gr hne5
  have HRUN := Lib.hid hrun
  clear hrun
  have CT := Lib.hid (mTo st size dg ((left - 1 : Nat) : Int) B L lines status (.slice (some ⟨g7, 0, none⟩) (xs.length + 1) cap7) 3 g _ b)
  have HB := Lib.hid b
  have HA := Lib.hid hba2
  have HN := Lib.hid (hba2.ne b (by decide))
  have HG := Lib.hid hg
  have HR := Lib.hid gr
  clear hba2 b e gr hba hne hne5 hg hV hB hB5
  by_cases h1 : left = 1
  · simp only [if_pos h1]
    have e1 : ((((left - 1 : Nat) : Int)) == 0) = true := by rw [beq_iff_eq]; omega
    have e2 : (((left - 1 : Nat) : Int)) = 0 := by omega
    clear h1
    generalize ((left - 1 : Nat) : Int) = D at *
    subst e2
    go_enter Tryz.func168, Tryz.ntmps168
    go_wp2_with (at_builtin; refine wpList_append_run HRUN.out rfl _ _ rfl rfl rfl rfl ?_)
    (with_reducible refine (CT.out).mono ?_); rintro e w2 ⟨rfl, hb, hg⟩
    go_wp2_with fail
    first | go_end0 | (refine bodyPost_ret (results_none rfl _ _ _) rfl ?_)
    exact ⟨rfl, _, w5, HA.out.kept hg HN.out, hb, HG.out, Lib.grownBy_trans HR.out hg, HK.out⟩
  · simp only [if_neg h1]
    have e1 : ((((left - 1 : Nat) : Int)) == 0) = false := by rw [beq_eq_false_iff_ne]; omega
    clear h1
    generalize ((left - 1 : Nat) : Int) = D at *
    go_enter Tryz.func168, Tryz.ntmps168
    go_wp2_with (at_builtin; refine wpList_append_run HRUN.out rfl _ _ rfl rfl rfl rfl ?_)
    first | go_end0 | (refine bodyPost_ret (results_none rfl _ _ _) rfl ?_)
    exact ⟨rfl, _, w5, HA.out, HB.out, HG.out, HR.out, HK.out⟩
end
end Go.Proofs.YtencphfhpnljlaaGreatDoor
