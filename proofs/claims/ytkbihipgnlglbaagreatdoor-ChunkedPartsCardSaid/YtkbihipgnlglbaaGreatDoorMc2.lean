/-
  The decoder that is fed: sized.
-/
import Derived.Test.YtkbihipgnlglbaaGreatDoorMc1
namespace Go.Proofs.YtkbihipgnlglbaaGreatDoor
open Go.RowKit

set_option maxRecDepth 100000 in
set_option maxHeartbeats 4000000 in
theorem mSized (st dg left : Int) (size : Nat) (B L : ByteArray) (lines status x : Int) (A : Option Addr) (nb cap : Nat) (hn : nb ≤ 2048) (hs : size < 4294967296) (g : Nat) (W : World) (hB : Blk W g 66 (mC st size dg left B L lines status (.slice A nb cap))) : Calls Tryz.prog 57 #[.pointer (some ⟨g, 0, none⟩), .int .u8 x] W (McPost g (if x ≠ 10 then mC 8 0 0 0 ⟨#[]⟩ ⟨#[]⟩ 0 400 (.slice A nb cap) else if size = 0 then mC 5 0 0 0 ⟨#[]⟩ ⟨#[]⟩ lines 0 (.slice A nb cap) else if 2048 < nb + size then mC 8 0 0 0 ⟨#[]⟩ ⟨#[]⟩ 0 413 (.slice A nb cap) else mC 2 0 0 size ⟨#[]⟩ ⟨#[]⟩ lines 0 (.slice A nb cap)) W) := by
  have c1 := mFail st size dg left B L lines status (.slice A nb cap) 400 g W hB
  have c2 := mTo st size dg left B L lines status (.slice A nb cap) 5 g W hB
  have c3 := mFail st size dg left B L lines status (.slice A nb cap) 413 g W hB
  have c4 := mTo st size dg left B L lines status (.slice A nb cap) 2 g W hB
  have p1 : W.cell? ⟨g, 1, none⟩ = some (.int .i64 (size : Int)) := hB.cell 1
  have p8 : W.cell? ⟨g, 8, none⟩ = some (.slice A nb cap) := hB.cell 8
  have C1 := Lib.hid c1
  have C2 := Lib.hid c2
  have C3 := Lib.hid c3
  have C4 := Lib.hid c4
  clear c1 c2 c3 c4 hB
  by_cases h1 : x = 10
  · rw [if_neg (by simp [h1])]
    have e1 : (x != 10) = false := by simp [h1]
    have H1 := Lib.hid h1
    clear h1
    by_cases h2 : size = 0
    · rw [if_pos h2]
      have e2 : ((size : Int) == 0) = true := by rw [beq_iff_eq]; omega
      clear h2
      go_enter Tryz.func57, Tryz.ntmps57
      go_wp2_with fail
      (with_reducible refine (C2.out).mono ?_); rintro e w2 ⟨rfl, hb, hg⟩
      go_wp2_with fail
      first | go_end0 | (refine bodyPost_ret (results_none rfl _ _ _) rfl ?_)
      exact ⟨rfl, hb, hg⟩
    · rw [if_neg h2]
      have e2 : ((size : Int) == 0) = false := by rw [beq_eq_false_iff_ne]; omega
      by_cases h3 : 2048 < nb + size
      · rw [if_pos h3]
        have e3 : decide ((2048 : Int) < (nb : Int) + (size : Int)) = true := by simp; omega
        have e4 : (2048 : Int) < (nb : Int) + (size : Int) := by omega
        clear h2 h3
        go_enter Tryz.func57, Tryz.ntmps57
        go_wp2_with fail
        (with_reducible refine (C3.out).mono ?_); rintro e w2 ⟨rfl, hb, hg⟩
        go_wp2_with fail
        first | go_end0 | (refine bodyPost_ret (results_none rfl _ _ _) rfl ?_)
        exact ⟨rfl, hb, hg⟩
      · rw [if_neg h3]
        have e3 : decide ((2048 : Int) < (nb : Int) + (size : Int)) = false := by simp; omega
        have e4 : (nb : Int) + (size : Int) ≤ 2048 := by omega
        clear h2 h3
        go_enter Tryz.func57, Tryz.ntmps57
        go_wp2_with fail
        (with_reducible refine (C4.out).mono ?_); rintro e w2 ⟨rfl, hb, hg⟩
        have q3 : w2.cell? ⟨g, 3, none⟩ = some (.int .i64 0) := hb.cell 3
        have f3 : w2.frozen? ⟨g, 3, none⟩ = false := hb.frozen 3
        have HB := Lib.hid hb
        have HG := Lib.hid hg
        clear hb hg
        go_wp2_with fail
        first | go_end0 | (refine bodyPost_ret (results_none rfl _ _ _) rfl ?_)
        have b := HB.out.set_ 3 (.int .i64 (size : Int))
        have e : (mC 2 0 0 0 ⟨#[]⟩ ⟨#[]⟩ lines 0 (.slice A nb cap)).setIfInBounds 3 (.int .i64 (size : Int)) = mC 2 0 0 size ⟨#[]⟩ ⟨#[]⟩ lines 0 (.slice A nb cap) := by simp [mC]
        rw [e] at b
        exact ⟨rfl, b, Lib.grownBy_setB HG.out 3 _⟩
  · rw [if_pos h1]
    have e1 : (x != 10) = true := by simp [h1]
    clear h1
    go_enter Tryz.func57, Tryz.ntmps57
    go_wp2_with fail
    (with_reducible refine (C1.out).mono ?_); rintro e w2 ⟨rfl, hb, hg⟩
    go_wp2_with fail
    first | go_end0 | (refine bodyPost_ret (results_none rfl _ _ _) rfl ?_)
    exact ⟨rfl, hb, hg⟩
end Go.Proofs.YtkbihipgnlglbaaGreatDoor
