/-
  The decoder that is fed: trailer.
-/
import Derived.Test.YtkbihipgnlglbaaGreatDoorMc2
import Derived.RegionTactic
import Derived.ChangeAlike
namespace Go.Proofs.YtkbihipgnlglbaaGreatDoor
open Go.RowKit

private theorem emp_t' {s : ByteArray} (h : s.size = 0) : s.toList.isEmpty = true := by
  have e : s = ⟨#[]⟩ := by
    apply ByteArray.ext
    exact Array.eq_empty_of_size_eq_zero h
  rw [e]; decide +kernel
private theorem emp_f' {s : ByteArray} (h : ¬ s.size = 0) : s.toList.isEmpty = false := by
  rw [Lib.toList_data, List.isEmpty_eq_false_iff]; intro e; exact h (by rw [← size_l, e]; rfl)
set_option maxRecDepth 100000 in
set_option maxHeartbeats 4000000 in
theorem mTrailer (st size dg left : Int) (B L : ByteArray) (lines : Nat) (status : Int) (x : UInt8) (v : Value) (hL : L.size ≤ 1000) (hl : lines ≤ 32) (g : Nat) (W : World) (hB : Blk W g 66 (mC st size dg left B L lines status v)) : Calls Tryz.prog 61 #[.pointer (some ⟨g, 0, none⟩), .int .u8 (x.toNat : Int)] W (McPost g (if x = 13 then mC 6 size dg left B L lines status v else if x = 10 then mC 8 0 0 0 ⟨#[]⟩ ⟨#[]⟩ 0 400 v else if (L.size = 0 ∧ lines = 32) ∨ L.size = 512 then mC 8 0 0 0 ⟨#[]⟩ ⟨#[]⟩ 0 431 v else mC st size dg left B (L ++ ⟨#[x]⟩) lines status v) W) := by
  have c1 := mFail st size dg left B L lines status v 400 g W hB
  have c2 := mFail st size dg left B L lines status v 431 g W hB
  have p0 : W.cell? ⟨g, 0, none⟩ = some (.int .i64 st) := hB.cell 0
  have p5 : W.cell? ⟨g, 5, none⟩ = some (.string L) := hB.cell 5
  have p6 : W.cell? ⟨g, 6, none⟩ = some (.int .i64 lines) := hB.cell 6
  have f0 : W.frozen? ⟨g, 0, none⟩ = false := hB.frozen 0
  have f5 : W.frozen? ⟨g, 5, none⟩ = false := hB.frozen 5
  have C1 := Lib.hid c1
  have C2 := Lib.hid c2
  have HB := Lib.hid hB
  clear c1 c2 hB
  by_cases h1 : x = 13
  · rw [if_pos h1]
    subst h1
    have e1 : (((13 : UInt8).toNat : Int) == 13) = true := rfl
    go_enter Tryz.func61, Tryz.ntmps61
    go_wp2_with fail
    go_end0
    have b := HB.out.set_ 0 (.int .i64 6)
    have e : (mC st size dg left B L lines status v).setIfInBounds 0 (.int .i64 6) = mC 6 size dg left B L lines status v := by simp [mC]
    rw [e] at b
    exact ⟨rfl, b, Lib.grownBy_setB (World.grownBy.refl W (some g)) 0 _⟩
  · rw [if_neg h1]
    have n1 : ¬ x.toNat = 13 := fun e => h1 (UInt8.toNat_inj.1 e)
    have e1 : ((x.toNat : Int) == 13) = false := by rw [beq_eq_false_iff_ne]; omega
    clear h1
    by_cases h3 : x = 10
    · rw [if_pos h3]
      subst h3
      have e2 : (((10 : UInt8).toNat : Int) == 10) = true := rfl
      go_enter Tryz.func61, Tryz.ntmps61
      go_wp2_with fail
      (with_reducible refine (C1.out).mono ?_); rintro e w2 ⟨rfl, hb, hg⟩
      go_wp2_with fail
      first | go_end0 | (refine bodyPost_ret (results_none rfl _ _ _) rfl ?_)
      exact ⟨rfl, hb, hg⟩
    · rw [if_neg h3]
      have n2 : ¬ x.toNat = 10 := fun e => h3 (UInt8.toNat_inj.1 e)
      have e2 : ((x.toNat : Int) == 10) = false := by rw [beq_eq_false_iff_ne]; omega
      clear h3
      have x1 : (0 : Int) ≤ (x.toNat : Int) := by omega
      have x2 : (x.toNat : Int) ≤ 255 := by have := x.toNat_lt; omega
      have ex : UInt8.ofNat ((x.toNat : Int)).toNat = x := by simp
      have hcv : ∀ (q : World) (cap : Nat), q.cell? ⟨W.heap.size, 0, none⟩ = some (.int .u8 (x.toNat : Int)) → (convert 42 9 (.slice (some ⟨W.heap.size, 0, none⟩) 1 cap)).run Tryz.prog q = .ok (.string ⟨#[x]⟩) q := fun q cap hq => run_convert_bytes_back (P := Tryz.prog) q 42 9 5 ⟨W.heap.size, 0, none⟩ cap [x] Tryz.underlying42 Tryz.underlying5 Tryz.underlying9 (fun j hj => by
        have : j = 0 := by simpa using hj
        subst this
        exact hq)
      have CV := hcv
      clear hcv
      generalize (x.toNat : Int) = X at *
      by_cases h4 : (L.size = 0 ∧ lines = 32) ∨ L.size = 512
      · rw [if_pos h4]
        by_cases h5 : L.size = 512
        · have e5 : ((L.size : Int) == 512) = true := by rw [beq_iff_eq]; omega
          have hem : L.toList.isEmpty = false := emp_f' (by omega)
          have hem2 : ¬ L.toList = [] := fun e => by rw [e] at hem; cases hem
          clear h4 h5
          go_enter Tryz.func61, Tryz.ntmps61
          go_wp2_with fail
          (with_reducible refine (C2.out).mono ?_); rintro e w2 ⟨rfl, hb, hg⟩
          go_wp2_with fail
          first | go_end0 | (refine bodyPost_ret (results_none rfl _ _ _) rfl ?_)
          exact ⟨rfl, hb, hg⟩
        · obtain ⟨h6, h7⟩ : L.size = 0 ∧ lines = 32 := by omega
          have hem : L.toList.isEmpty = true := emp_t' h6
          have hem2 : L.toList = [] := List.isEmpty_iff.1 hem
          have e5 : ((L.size : Int) == 512) = false := by rw [beq_eq_false_iff_ne]; omega
          have e6 : (((lines : Nat) : Int) == 32) = true := by rw [beq_iff_eq]; omega
          clear h4 h5 h6 h7
          go_enter Tryz.func61, Tryz.ntmps61
          go_wp2_with fail
          (with_reducible refine (C2.out).mono ?_); rintro e w2 ⟨rfl, hb, hg⟩
          go_wp2_with fail
          first | go_end0 | (refine bodyPost_ret (results_none rfl _ _ _) rfl ?_)
          exact ⟨rfl, hb, hg⟩
      · rw [if_neg h4]
        have e5 : ((L.size : Int) == 512) = false := by rw [beq_eq_false_iff_ne]; omega
        have s1 : ¬ 9223372036854775806 < L.size := by omega
        have s2 : ¬ 9223372036854775807 < L.size + 1 := by omega
        have hcv := CV
        have g1 := (Below.refl W.heap.size W).alloc (Nat.le_refl _) (.cells #[.int .u8 X] 5)
        have hA := HB.out.below g1 HB.out.lt
        have q5 := hA.cell 5
        have k5 := hA.frozen 5
        simp only [mC] at q5
        have HA := Lib.hid hA
        have HG := Lib.hid (Lib.grownBy_allocR (World.grownBy.refl W (some g)) (.cells #[.int .u8 X] 5))
        clear hA g1
        by_cases h6 : L.size = 0
        · have hem : L.toList.isEmpty = true := emp_t' h6
          have hem2 : L.toList = [] := List.isEmpty_iff.1 hem
          have e6 : (((lines : Nat) : Int) == 32) = false := by rw [beq_eq_false_iff_ne]; omega
          clear h4 h6
          go_enter Tryz.func61, Tryz.ntmps61
          go_wp2_with fail
          go_region
          all_goals (
            go_wp2_with fail
            first | go_end0 | (refine bodyPost_ret (results_none rfl _ _ _) rfl ?_)
            have b := HA.out.set_ 5 (.string (L ++ ⟨#[x]⟩))
            have e : (mC st size dg left B L lines status v).setIfInBounds 5 (.string (L ++ ⟨#[x]⟩)) = mC st size dg left B (L ++ ⟨#[x]⟩) lines status v := by simp [mC]
            rw [e] at b
            exact ⟨rfl, Blk.drew b, only_drew (Lib.grownBy_setB HG.out 5 _)⟩)
        · have hem : L.toList.isEmpty = false := emp_f' h6
          have hem2 : ¬ L.toList = [] := fun e => by rw [e] at hem; cases hem
          clear h4 h6
          go_enter Tryz.func61, Tryz.ntmps61
          go_wp2_with fail
          go_region
          all_goals (
            go_wp2_with fail
            first | go_end0 | (refine bodyPost_ret (results_none rfl _ _ _) rfl ?_)
            have b := HA.out.set_ 5 (.string (L ++ ⟨#[x]⟩))
            have e : (mC st size dg left B L lines status v).setIfInBounds 5 (.string (L ++ ⟨#[x]⟩)) = mC st size dg left B (L ++ ⟨#[x]⟩) lines status v := by simp [mC]
            rw [e] at b
            exact ⟨rfl, Blk.drew b, only_drew (Lib.grownBy_setB HG.out 5 _)⟩)
end Go.Proofs.YtkbihipgnlglbaaGreatDoor
