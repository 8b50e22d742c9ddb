/-
  The decoder that is fed: size.
-/
import Derived.Test.YtkbihipgnlglbaaGreatDoorMc2
import Derived.RegionTactic
import Derived.ChangeAlike
import Derived.BigRegion
namespace Go.Proofs.YtkbihipgnlglbaaGreatDoor
open Go.RowKit

set_option maxRecDepth 100000 in
set_option maxHeartbeats 8000000 in
theorem mSize0 (d : Int) (st left : Int) (size dg : Nat) (B L : ByteArray) (lines status : Int) (x : UInt8) (v : Value) (hd : -1 ≤ d ∧ d ≤ 15) (hs : size < 4294967296) (hdg : dg ≤ 8) (g : Nat) (W : World) (hB : Blk W g 66 (mC st size dg left B L lines status v))
    (hV : Calls Tryz.prog 70 #[.int .u8 (x.toNat : Int)] W fun e w' => e = .returned (.int .i64 d) ∧ Below W.heap.size W w') :
    Calls Tryz.prog 56 #[.pointer (some ⟨g, 0, none⟩), .int .u8 (x.toNat : Int)] W (McPost g (if 0 ≤ d ∧ dg < 8 then mC st (16 * (size : Int) + d) (dg + 1 : Nat) left B L lines status v else if x = 13 ∧ 0 < dg then mC 1 size dg left B L lines status v else mC 8 0 0 0 ⟨#[]⟩ ⟨#[]⟩ 0 400 v) W) := by
  have HV := Lib.hid hV
  have HB := Lib.hid hB
  clear hV hB
  obtain ⟨X, hX⟩ : ∃ X, (x.toNat : Int) = X := ⟨_, rfl⟩
  rw [hX] at HV ⊢

  by_cases h1 : 0 ≤ d
  · have e1 : decide ((0 : Int) ≤ d) = true := by simp [h1]
    by_cases h2 : dg < 8
    · rw [if_pos ⟨h1, h2⟩]
      have e2 : decide ((dg : Int) < 8) = true := by simp; omega
      have e3 : (dg : Int) < 8 := by omega
      have m1 : IntKind.i64.wrap (16 * (size : Int)) = 16 * (size : Int) := by rw [IntKind.wrap_i64]; omega
      have m2 : IntKind.i64.wrap (16 * (size : Int) + d) = 16 * (size : Int) + d := by rw [IntKind.wrap_i64]; omega
      have m3 : IntKind.i64.wrap ((dg : Int) + 1) = ((dg + 1 : Nat) : Int) := by rw [IntKind.wrap_i64]; omega
      generalize ((dg + 1 : Nat) : Int) = D1 at *
      go_enter Tryz.func56, Tryz.ntmps56
      go_wp2_with fail
      (with_reducible refine (HV.out).mono ?_); rintro e w1 ⟨rfl, g1⟩
      have hB := HB.out.below g1 HB.out.lt
      have HG := Lib.hid (Lib.grownBy_below (World.grownBy.refl W (some g)) g1)
      have c1 := mFail st size dg left B L lines status v 400 g w1 hB
      have p1 : w1.cell? ⟨g, 1, none⟩ = some (.int .i64 size) := hB.cell 1
      have p2 : w1.cell? ⟨g, 2, none⟩ = some (.int .i64 dg) := hB.cell 2
      have p0 : w1.cell? ⟨g, 0, none⟩ = some (.int .i64 st) := hB.cell 0
      have f0 : w1.frozen? ⟨g, 0, none⟩ = false := hB.frozen 0
      have f1 : w1.frozen? ⟨g, 1, none⟩ = false := hB.frozen 1
      have f2 : w1.frozen? ⟨g, 2, none⟩ = false := hB.frozen 2
      have HB1 := Lib.hid hB
      have C1 := Lib.hid c1
      clear c1 hB g1
      go_wp2_with fail
      go_region
      all_goals (
        go_wp2_with fail
        first | go_end0 | (refine bodyPost_ret (results_none rfl _ _ _) rfl ?_)
        have b := (HB1.out.set_ 1 (.int .i64 (16 * (size : Int) + d))).set_ 2 (.int .i64 D1)
        have e : ((mC st size dg left B L lines status v).setIfInBounds 1 (.int .i64 (16 * (size : Int) + d))).setIfInBounds 2 (.int .i64 D1) = mC st (16 * (size : Int) + d) D1 left B L lines status v := by simp [mC]
        rw [e] at b
        exact ⟨rfl, Blk.drew b, only_drew (Lib.grownBy_setB (Lib.grownBy_setB HG.out 1 _) 2 _)⟩)
    · rw [if_neg (fun h => h2 h.2)]
      have e2 : decide ((dg : Int) < 8) = false := by simp; omega
      have e3 : (8 : Int) ≤ (dg : Int) := by omega
      by_cases h3 : x = 13
      · rw [if_pos ⟨h3, by omega⟩]
        have e4 : (X == 13) = true := by rw [← hX, h3]; rfl
        have e5 : decide ((0 : Int) < (dg : Int)) = true := by simp; omega
        clear h2
        go_enter Tryz.func56, Tryz.ntmps56
        go_wp2_with fail
        (with_reducible refine (HV.out).mono ?_); rintro e w1 ⟨rfl, g1⟩
        have hB := HB.out.below g1 HB.out.lt
        have HG := Lib.hid (Lib.grownBy_below (World.grownBy.refl W (some g)) g1)
        have c1 := mFail st size dg left B L lines status v 400 g w1 hB
        have p1 : w1.cell? ⟨g, 1, none⟩ = some (.int .i64 size) := hB.cell 1
        have p2 : w1.cell? ⟨g, 2, none⟩ = some (.int .i64 dg) := hB.cell 2
        have p0 : w1.cell? ⟨g, 0, none⟩ = some (.int .i64 st) := hB.cell 0
        have f0 : w1.frozen? ⟨g, 0, none⟩ = false := hB.frozen 0
        have f1 : w1.frozen? ⟨g, 1, none⟩ = false := hB.frozen 1
        have f2 : w1.frozen? ⟨g, 2, none⟩ = false := hB.frozen 2
        have HB1 := Lib.hid hB
        have C1 := Lib.hid c1
        clear c1 hB g1
        go_wp2_with fail
        first | go_end0 | (refine bodyPost_ret (results_none rfl _ _ _) rfl ?_)
        have b := HB1.out.set_ 0 (.int .i64 1)
        have e : (mC st size dg left B L lines status v).setIfInBounds 0 (.int .i64 1) = mC 1 size dg left B L lines status v := by simp [mC]
        rw [e] at b
        exact ⟨rfl, b, Lib.grownBy_setB HG.out 0 _⟩
      · rw [if_neg (fun h => h3 h.1)]
        have n1 : ¬ x.toNat = 13 := fun e => h3 (UInt8.toNat_inj.1 e)
        have e4 : (X == 13) = false := by rw [← hX, beq_eq_false_iff_ne]; omega
        clear h3 h2
        go_enter Tryz.func56, Tryz.ntmps56
        go_wp2_with fail
        (with_reducible refine (HV.out).mono ?_); rintro e w1 ⟨rfl, g1⟩
        have hB := HB.out.below g1 HB.out.lt
        have HG := Lib.hid (Lib.grownBy_below (World.grownBy.refl W (some g)) g1)
        have c1 := mFail st size dg left B L lines status v 400 g w1 hB
        have p1 : w1.cell? ⟨g, 1, none⟩ = some (.int .i64 size) := hB.cell 1
        have p2 : w1.cell? ⟨g, 2, none⟩ = some (.int .i64 dg) := hB.cell 2
        have p0 : w1.cell? ⟨g, 0, none⟩ = some (.int .i64 st) := hB.cell 0
        have f0 : w1.frozen? ⟨g, 0, none⟩ = false := hB.frozen 0
        have f1 : w1.frozen? ⟨g, 1, none⟩ = false := hB.frozen 1
        have f2 : w1.frozen? ⟨g, 2, none⟩ = false := hB.frozen 2
        have HB1 := Lib.hid hB
        have C1 := Lib.hid c1
        clear c1 hB g1
        go_wp2_with fail
        (with_reducible refine (C1.out).mono ?_); rintro e w2 ⟨rfl, hb, hg⟩
        go_wp2_with fail
        first | go_end0 | (refine bodyPost_ret (results_none rfl _ _ _) rfl ?_)
        exact ⟨rfl, hb, Lib.grownBy_trans HG.out hg⟩
  · rw [if_neg (fun h => h1 h.1)]
    have e1 : decide ((0 : Int) ≤ d) = false := by simp; omega
    have e1' : d < 0 := by omega
    clear h1
    by_cases h3 : x = 13
    · have e4 : (X == 13) = true := by rw [← hX, h3]; rfl
      by_cases h4 : 0 < dg
      · rw [if_pos ⟨h3, h4⟩]
        have e5 : decide ((0 : Int) < (dg : Int)) = true := by simp; omega
        have e6 : (0 : Int) < (dg : Int) := by omega
        go_enter Tryz.func56, Tryz.ntmps56
        go_wp2_with fail
        (with_reducible refine (HV.out).mono ?_); rintro e w1 ⟨rfl, g1⟩
        have hB := HB.out.below g1 HB.out.lt
        have HG := Lib.hid (Lib.grownBy_below (World.grownBy.refl W (some g)) g1)
        have c1 := mFail st size dg left B L lines status v 400 g w1 hB
        have p1 : w1.cell? ⟨g, 1, none⟩ = some (.int .i64 size) := hB.cell 1
        have p2 : w1.cell? ⟨g, 2, none⟩ = some (.int .i64 dg) := hB.cell 2
        have p0 : w1.cell? ⟨g, 0, none⟩ = some (.int .i64 st) := hB.cell 0
        have f0 : w1.frozen? ⟨g, 0, none⟩ = false := hB.frozen 0
        have f1 : w1.frozen? ⟨g, 1, none⟩ = false := hB.frozen 1
        have f2 : w1.frozen? ⟨g, 2, none⟩ = false := hB.frozen 2
        have HB1 := Lib.hid hB
        have C1 := Lib.hid c1
        clear c1 hB g1
        go_wp2_with fail
        first | go_end0 | (refine bodyPost_ret (results_none rfl _ _ _) rfl ?_)
        have b := HB1.out.set_ 0 (.int .i64 1)
        have e : (mC st size dg left B L lines status v).setIfInBounds 0 (.int .i64 1) = mC 1 size dg left B L lines status v := by simp [mC]
        rw [e] at b
        exact ⟨rfl, b, Lib.grownBy_setB HG.out 0 _⟩
      · rw [if_neg (fun h => h4 h.2)]
        have e5 : decide ((0 : Int) < (dg : Int)) = false := by simp; omega
        have e6 : (dg : Int) ≤ 0 := by omega
        have e7 : decide (0 < dg) = false := by simp; omega
        have e8 : ¬ 0 < dg := h4
        have e9 : dg = 0 := by omega
        clear h4
        go_enter Tryz.func56, Tryz.ntmps56
        go_wp2_with fail
        (with_reducible refine (HV.out).mono ?_); rintro e w1 ⟨rfl, g1⟩
        have hB := HB.out.below g1 HB.out.lt
        have HG := Lib.hid (Lib.grownBy_below (World.grownBy.refl W (some g)) g1)
        have c1 := mFail st size dg left B L lines status v 400 g w1 hB
        have p1 : w1.cell? ⟨g, 1, none⟩ = some (.int .i64 size) := hB.cell 1
        have p2 : w1.cell? ⟨g, 2, none⟩ = some (.int .i64 dg) := hB.cell 2
        have p0 : w1.cell? ⟨g, 0, none⟩ = some (.int .i64 st) := hB.cell 0
        have f0 : w1.frozen? ⟨g, 0, none⟩ = false := hB.frozen 0
        have f1 : w1.frozen? ⟨g, 1, none⟩ = false := hB.frozen 1
        have f2 : w1.frozen? ⟨g, 2, none⟩ = false := hB.frozen 2
        have HB1 := Lib.hid hB
        have C1 := Lib.hid c1
        clear c1 hB g1
        go_wp2_with fail
        (with_reducible refine (C1.out).mono ?_); rintro e w2 ⟨rfl, hb, hg⟩
        go_wp2_with fail
        first | go_end0 | (refine bodyPost_ret (results_none rfl _ _ _) rfl ?_)
        exact ⟨rfl, hb, Lib.grownBy_trans HG.out hg⟩
    · rw [if_neg (fun h => h3 h.1)]
      have n1 : ¬ x.toNat = 13 := fun e => h3 (UInt8.toNat_inj.1 e)
      have e4 : (X == 13) = false := by rw [← hX, beq_eq_false_iff_ne]; omega
      clear h3
      go_enter Tryz.func56, Tryz.ntmps56
      go_wp2_with fail
      (with_reducible refine (HV.out).mono ?_); rintro e w1 ⟨rfl, g1⟩
      have hB := HB.out.below g1 HB.out.lt
      have HG := Lib.hid (Lib.grownBy_below (World.grownBy.refl W (some g)) g1)
      have c1 := mFail st size dg left B L lines status v 400 g w1 hB
      have p1 : w1.cell? ⟨g, 1, none⟩ = some (.int .i64 size) := hB.cell 1
      have p2 : w1.cell? ⟨g, 2, none⟩ = some (.int .i64 dg) := hB.cell 2
      have p0 : w1.cell? ⟨g, 0, none⟩ = some (.int .i64 st) := hB.cell 0
      have f0 : w1.frozen? ⟨g, 0, none⟩ = false := hB.frozen 0
      have f1 : w1.frozen? ⟨g, 1, none⟩ = false := hB.frozen 1
      have f2 : w1.frozen? ⟨g, 2, none⟩ = false := hB.frozen 2
      have HB1 := Lib.hid hB
      have C1 := Lib.hid c1
      clear c1 hB g1
      go_wp2_with fail
      (with_reducible refine (C1.out).mono ?_); rintro e w2 ⟨rfl, hb, hg⟩
      go_wp2_with fail
      first | go_end0 | (refine bodyPost_ret (results_none rfl _ _ _) rfl ?_)
      exact ⟨rfl, hb, Lib.grownBy_trans HG.out hg⟩
end Go.Proofs.YtkbihipgnlglbaaGreatDoor
