/-
  The decoder that is fed: last.
-/
import Derived.Test.YtkbihipgnlglbaaGreatDoorMc2
import Derived.Test.YtkbihipgnlglbaaGreatDoorTk5
namespace Go.Proofs.YtkbihipgnlglbaaGreatDoor
open Go.RowKit

theorem emp_t' {s : ByteArray} (h : s.size = 0) : s.toList.isEmpty = true := by
  have e : s = ⟨#[]⟩ := by
    apply ByteArray.ext
    exact Array.eq_empty_of_size_eq_zero h
  rw [e]; decide +kernel
theorem emp_f' {s : ByteArray} (h : ¬ s.size = 0) : s.toList.isEmpty = false := by
  rw [Lib.toList_data, List.isEmpty_eq_false_iff]; intro e; exact h (by rw [← size_l, e]; rfl)
set_option maxRecDepth 100000 in
set_option maxHeartbeats 4000000 in
theorem mLast (st size dg left : Int) (B L : ByteArray) (lines : Nat) (status x : Int) (v : Value) (hL : L.size ≤ 1000) (hl : lines ≤ 32) (g : Nat) (W : World) (hB : Blk W g 66 (mC st size dg left B L lines status v)) : Calls Tryz.prog 62 #[.pointer (some ⟨g, 0, none⟩), .int .u8 x] W (McPost g (if x ≠ 10 then mC 8 0 0 0 ⟨#[]⟩ ⟨#[]⟩ 0 400 v else if L.size = 0 then mC 7 0 0 0 ⟨#[]⟩ ⟨#[]⟩ lines 0 v else if (colT L.data.toList).2.2 ≠ 0 then mC 8 0 0 0 ⟨#[]⟩ ⟨#[]⟩ 0 400 v else mC 5 0 0 0 ⟨#[]⟩ ⟨#[]⟩ (lines + 1 : Nat) 0 v) W) := by
  have cT := TColon_any L W (by omega)
  obtain ⟨⟨c0, c1, E⟩, hE⟩ : ∃ z, colT L.data.toList = z := ⟨_, rfl⟩
  rw [hE] at cT ⊢
  simp only at cT ⊢
  have p5 : W.cell? ⟨g, 5, none⟩ = some (.string L) := hB.cell 5
  have CT := Lib.hid cT
  have HB := Lib.hid hB
  clear cT hB hE
  by_cases h1 : x = 10
  · rw [if_neg (by simp [h1])]
    have e1 : (x != 10) = false := by simp [h1]
    clear h1
    by_cases h2 : L.size = 0
    · rw [if_pos h2]
      have hem : L.toList.isEmpty = true := emp_t' h2
      have hem2 : L.toList = [] := List.isEmpty_iff.1 hem
      clear h2
      go_enter Tryz.func62, Tryz.ntmps62
      go_wp2_with fail
      (with_reducible refine (CT.out).mono ?_); rintro e w1 ⟨rfl, g1⟩
      have HB := Lib.hid (HB.out.below g1 HB.out.lt)
      have HG := Lib.hid (Lib.grownBy_below (World.grownBy.refl W (some g)) g1)
      clear g1 p5
      have C := Lib.hid (mTo st size dg left B L lines status v 7 g w1 HB.out)
      go_wp2_with fail
      (with_reducible refine (C.out).mono ?_); rintro e w2 ⟨rfl, hb, hg⟩
      go_wp2_with fail
      first | go_end0 | (refine bodyPost_ret (results_none rfl _ _ _) rfl ?_)
      exact ⟨rfl, hb, Lib.grownBy_trans HG.out hg⟩
    · rw [if_neg h2]
      have hem : L.toList.isEmpty = false := emp_f' h2
      have hem2 : ¬ L.toList = [] := fun e => by rw [e] at hem; cases hem
      clear h2
      by_cases h3 : E = 0
      · rw [if_neg (by simp [h3])]
        have e3 : ((E : Int) != 0) = false := by simp [h3]
        clear h3
        go_enter Tryz.func62, Tryz.ntmps62
        go_wp2_with fail
        (with_reducible refine (CT.out).mono ?_); rintro e w1 ⟨rfl, g1⟩
        have HB := Lib.hid (HB.out.below g1 HB.out.lt)
        have HG := Lib.hid (Lib.grownBy_below (World.grownBy.refl W (some g)) g1)
        clear g1 p5
        have C := Lib.hid (mTo st size dg left B L lines status v 5 g w1 HB.out)
        go_wp2_with fail
        (with_reducible refine (C.out).mono ?_); rintro e w2 ⟨rfl, hb, hg⟩
        have q6 : w2.cell? ⟨g, 6, none⟩ = some (.int .i64 (lines : Int)) := hb.cell 6
        have f6 : w2.frozen? ⟨g, 6, none⟩ = false := hb.frozen 6
        have hwl : IntKind.i64.wrap ((lines : Int) + 1) = ((lines + 1 : Nat) : Int) := by rw [IntKind.wrap_i64]; omega
        have HB2 := Lib.hid hb
        have HG2 := Lib.hid hg
        clear hb hg
        go_wp2_with fail
        first | go_end0 | (refine bodyPost_ret (results_none rfl _ _ _) rfl ?_)
        have b := HB2.out.set_ 6 (.int .i64 ((lines + 1 : Nat) : Int))
        have e : (mC 5 0 0 0 ⟨#[]⟩ ⟨#[]⟩ lines 0 v).setIfInBounds 6 (.int .i64 ((lines + 1 : Nat) : Int)) = mC 5 0 0 0 ⟨#[]⟩ ⟨#[]⟩ (lines + 1 : Nat) 0 v := by simp [mC]
        rw [e] at b
        exact ⟨rfl, b, Lib.grownBy_setB (Lib.grownBy_trans HG.out HG2.out) 6 _⟩
      · rw [if_pos h3]
        have e3 : ((E : Int) != 0) = true := by rw [bne_iff_ne]; omega
        clear h3
        go_enter Tryz.func62, Tryz.ntmps62
        go_wp2_with fail
        (with_reducible refine (CT.out).mono ?_); rintro e w1 ⟨rfl, g1⟩
        have HB := Lib.hid (HB.out.below g1 HB.out.lt)
        have HG := Lib.hid (Lib.grownBy_below (World.grownBy.refl W (some g)) g1)
        clear g1 p5
        have C := Lib.hid (mFail st size dg left B L lines status v 400 g w1 HB.out)
        go_wp2_with fail
        (with_reducible refine (C.out).mono ?_); rintro e w2 ⟨rfl, hb, hg⟩
        go_wp2_with fail
        first | go_end0 | (refine bodyPost_ret (results_none rfl _ _ _) rfl ?_)
        exact ⟨rfl, hb, Lib.grownBy_trans HG.out hg⟩
  · rw [if_pos h1]
    have e1 : (x != 10) = true := by simp [h1]
    clear h1
    go_enter Tryz.func62, Tryz.ntmps62
    go_wp2_with fail
    (with_reducible refine (CT.out).mono ?_); rintro e w1 ⟨rfl, g1⟩
    have HB := Lib.hid (HB.out.below g1 HB.out.lt)
    have HG := Lib.hid (Lib.grownBy_below (World.grownBy.refl W (some g)) g1)
    clear g1 p5
    have C := Lib.hid (mFail st size dg left B L lines status v 400 g w1 HB.out)
    go_wp2_with fail
    (with_reducible refine (C.out).mono ?_); rintro e w2 ⟨rfl, hb, hg⟩
    go_wp2_with fail
    first | go_end0 | (refine bodyPost_ret (results_none rfl _ _ _) rfl ?_)
    exact ⟨rfl, hb, Lib.grownBy_trans HG.out hg⟩
end Go.Proofs.YtkbihipgnlglbaaGreatDoor
