/-
  The reference of chunked bodies: trailer.
-/
import Derived.Test.YtkbihipgnlglbaaGreatDoorRc3
import Derived.Test.YtkbihipgnlglbaaGreatDoorMc3
namespace Go.Proofs.YtkbihipgnlglbaaGreatDoor
open Go.RowKit

set_option maxRecDepth 100000 in
set_option maxHeartbeats 8000000 in
theorem rTrailer (st size dg left : Int) (B L : ByteArray) (lines : Nat) (status : Int) (x : Int) (w : World) (hx : 0 ≤ x ∧ x ≤ 255) (hL : L.size ≤ 1000) : Calls Tryz.prog 48 #[.agg (ckA st size dg left B L lines status), .int .u8 x] w fun e w' => e = .returned (.agg (if x = 13 then ckA 6 size dg left B L lines status else if x = 10 then ckA 8 0 0 0 B ⟨#[]⟩ 0 400 else if (L.size = 0 ∧ lines = 32) ∨ L.size = 512 then ckA 8 0 0 0 B ⟨#[]⟩ 0 431 else ckA st size dg left B (L ++ ⟨#[UInt8.ofNat x.toNat]⟩) lines status)) ∧ Below w.heap.size w w' := by
  have cB400 := fun w => rBad st size dg left B L lines status 400 w
  unfold ckA at cB400
  have CB400 := Lib.hid cB400
  clear cB400
  have cB431 := fun w => rBad st size dg left B L lines status 431 w
  unfold ckA at cB431
  have CB431 := Lib.hid cB431
  clear cB431
  unfold ckA
  have fin : ∀ (c0 c : Array Value), Blk ((w.alloc (.cells c0 36)).alloc (.cells c 36)) (w.heap.size + 1) 36 c := fun c0 c => by
    have hb := Blk.new (w.alloc (.cells c0 36)) 36 c
    rw [World.size_alloc] at hb
    exact hb
  have FIN := Lib.hid fin
  clear fin
  have h2 : Below w.heap.size w ((w.alloc (.cells #[.int .i64 st, .int .i64 size, .int .i64 dg, .int .i64 left, .string B, .string L, .int .i64 lines, .int .i64 status] 36)).alloc (.cells #[.int .i64 0, .int .i64 0, .int .i64 0, .int .i64 0, .string ⟨#[]⟩, .string ⟨#[]⟩, .int .i64 0, .int .i64 0] 36)) := ((Below.refl _ _).alloc (Nat.le_refl _) _).alloc (by simp) _
  have H2 := Lib.hid h2
  clear h2
  by_cases h1 : x = 13
  · rw [if_pos h1]
    subst h1
    go_enter Tryz.func48, Tryz.ntmps48
    go_wp2_with fail
    refine bodyPost_ret (results_cell_row (p := 4) (ty := 36) (by kernel_rfl) _ _ (w.heap.size + 1) 36 #[.int .i64 6, .int .i64 size, .int .i64 dg, .int .i64 left, .string B, .string L, .int .i64 lines, .int .i64 status] (0, 0) _ rfl (FIN.out _ _) Tryz.underlying36 rfl (by kernel_rfl)) rfl ?_
    exact ⟨rfl, ((Below.refl _ _).alloc (Nat.le_refl _) _).alloc (by simp) _⟩
  · rw [if_neg h1]
    have e1 : (x == 13) = false := by simp [h1]
    clear h1
    by_cases h3 : x = 10
    · rw [if_pos h3]
      have e2 : (x == 10) = true := by simp [h3]
      clear h3
      go_enter Tryz.func48, Tryz.ntmps48
      go_wp2_with fail
      (with_reducible refine (CB400.out _).mono ?_); rintro e w2 ⟨rfl, g2⟩
      have h2 := H2.out
      have hz : Blk w2 (w.heap.size + 1) 36 #[.int .i64 0, .int .i64 0, .int .i64 0, .int .i64 0, .string ⟨#[]⟩, .string ⟨#[]⟩, .int .i64 0, .int .i64 0] := (FIN.out #[.int .i64 st, .int .i64 size, .int .i64 dg, .int .i64 left, .string B, .string L, .int .i64 lines, .int .i64 status] #[.int .i64 0, .int .i64 0, .int .i64 0, .int .i64 0, .string ⟨#[]⟩, .string ⟨#[]⟩, .int .i64 0, .int .i64 0]).below g2 (by simp)
      have z0 : w2.cell? ⟨w.heap.size + 1, 0, none⟩ = some (.int .i64 0) := hz.cell 0
      have f0 : w2.frozen? ⟨w.heap.size + 1, 0, none⟩ = false := hz.frozen 0
      have z1 : w2.cell? ⟨w.heap.size + 1, 1, none⟩ = some (.int .i64 0) := hz.cell 1
      have f1 : w2.frozen? ⟨w.heap.size + 1, 1, none⟩ = false := hz.frozen 1
      have z2 : w2.cell? ⟨w.heap.size + 1, 2, none⟩ = some (.int .i64 0) := hz.cell 2
      have f2 : w2.frozen? ⟨w.heap.size + 1, 2, none⟩ = false := hz.frozen 2
      have z3 : w2.cell? ⟨w.heap.size + 1, 3, none⟩ = some (.int .i64 0) := hz.cell 3
      have f3 : w2.frozen? ⟨w.heap.size + 1, 3, none⟩ = false := hz.frozen 3
      have z4 : w2.cell? ⟨w.heap.size + 1, 4, none⟩ = some (.string ⟨#[]⟩) := hz.cell 4
      have f4 : w2.frozen? ⟨w.heap.size + 1, 4, none⟩ = false := hz.frozen 4
      have z5 : w2.cell? ⟨w.heap.size + 1, 5, none⟩ = some (.string ⟨#[]⟩) := hz.cell 5
      have f5 : w2.frozen? ⟨w.heap.size + 1, 5, none⟩ = false := hz.frozen 5
      have z6 : w2.cell? ⟨w.heap.size + 1, 6, none⟩ = some (.int .i64 0) := hz.cell 6
      have f6 : w2.frozen? ⟨w.heap.size + 1, 6, none⟩ = false := hz.frozen 6
      have z7 : w2.cell? ⟨w.heap.size + 1, 7, none⟩ = some (.int .i64 0) := hz.cell 7
      have f7 : w2.frozen? ⟨w.heap.size + 1, 7, none⟩ = false := hz.frozen 7
      have HZ := Lib.hid (And.intro hz (And.intro h2 g2))
      clear hz h2 g2
      go_wp2_with fail
      obtain ⟨hz, h2, g2⟩ := HZ.out
      have b := ((((((((hz.set_ 0 (.int .i64 8)).set_ 1 (.int .i64 0)).set_ 2 (.int .i64 0)).set_ 3 (.int .i64 0)).set_ 4 (.string B)).set_ 5 (.string ⟨#[]⟩)).set_ 6 (.int .i64 0)).set_ 7 (.int .i64 400))
      have e : (((((((((#[.int .i64 0, .int .i64 0, .int .i64 0, .int .i64 0, .string ⟨#[]⟩, .string ⟨#[]⟩, .int .i64 0, .int .i64 0] : Array Value)).setIfInBounds 0 (.int .i64 8)).setIfInBounds 1 (.int .i64 0)).setIfInBounds 2 (.int .i64 0)).setIfInBounds 3 (.int .i64 0)).setIfInBounds 4 (.string B)).setIfInBounds 5 (.string ⟨#[]⟩)).setIfInBounds 6 (.int .i64 0)).setIfInBounds 7 (.int .i64 400) = #[.int .i64 8, .int .i64 0, .int .i64 0, .int .i64 0, .string B, .string ⟨#[]⟩, .int .i64 0, .int .i64 400] := by simp
      rw [e] at b
      refine bodyPost_ret (results_cell_row (p := 4) (ty := 36) (by kernel_rfl) _ _ (w.heap.size + 1) 36 #[.int .i64 8, .int .i64 0, .int .i64 0, .int .i64 0, .string B, .string ⟨#[]⟩, .int .i64 0, .int .i64 400] (0, 0) _ rfl b Tryz.underlying36 rfl (by kernel_rfl)) rfl ?_
      exact ⟨rfl, (((((((((h2.trans (g2.mono h2.size)).setCell (by simp) _).setCell (by simp) _).setCell (by simp) _).setCell (by simp) _).setCell (by simp) _).setCell (by simp) _).setCell (by simp) _).setCell (by simp) _)⟩
    · rw [if_neg h3]
      have e2 : (x == 10) = false := by simp [h3]
      clear h3
      obtain ⟨bb, hbb⟩ : ∃ bb : ByteArray, ⟨#[UInt8.ofNat x.toNat]⟩ = bb := ⟨_, rfl⟩
      by_cases h4 : (L.size = 0 ∧ lines = 32) ∨ L.size = 512
      · rw [if_pos h4]
        by_cases h5 : L.size = 512
        · have e5 : ((L.size : Int) == 512) = true := by rw [beq_iff_eq]; omega
          have hem : L.toList.isEmpty = false := emp_f' (by omega)
          have hem2 : ¬ L.toList = [] := fun e => by rw [e] at hem; cases hem
          clear h4 h5
          go_enter Tryz.func48, Tryz.ntmps48
          go_wp2_with fail
          (with_reducible refine (CB431.out _).mono ?_); rintro e w2 ⟨rfl, g2⟩
          have h2 := H2.out
          have hz : Blk w2 (w.heap.size + 1) 36 #[.int .i64 0, .int .i64 0, .int .i64 0, .int .i64 0, .string ⟨#[]⟩, .string ⟨#[]⟩, .int .i64 0, .int .i64 0] := (FIN.out #[.int .i64 st, .int .i64 size, .int .i64 dg, .int .i64 left, .string B, .string L, .int .i64 lines, .int .i64 status] #[.int .i64 0, .int .i64 0, .int .i64 0, .int .i64 0, .string ⟨#[]⟩, .string ⟨#[]⟩, .int .i64 0, .int .i64 0]).below g2 (by simp)
          have z0 : w2.cell? ⟨w.heap.size + 1, 0, none⟩ = some (.int .i64 0) := hz.cell 0
          have f0 : w2.frozen? ⟨w.heap.size + 1, 0, none⟩ = false := hz.frozen 0
          have z1 : w2.cell? ⟨w.heap.size + 1, 1, none⟩ = some (.int .i64 0) := hz.cell 1
          have f1 : w2.frozen? ⟨w.heap.size + 1, 1, none⟩ = false := hz.frozen 1
          have z2 : w2.cell? ⟨w.heap.size + 1, 2, none⟩ = some (.int .i64 0) := hz.cell 2
          have f2 : w2.frozen? ⟨w.heap.size + 1, 2, none⟩ = false := hz.frozen 2
          have z3 : w2.cell? ⟨w.heap.size + 1, 3, none⟩ = some (.int .i64 0) := hz.cell 3
          have f3 : w2.frozen? ⟨w.heap.size + 1, 3, none⟩ = false := hz.frozen 3
          have z4 : w2.cell? ⟨w.heap.size + 1, 4, none⟩ = some (.string ⟨#[]⟩) := hz.cell 4
          have f4 : w2.frozen? ⟨w.heap.size + 1, 4, none⟩ = false := hz.frozen 4
          have z5 : w2.cell? ⟨w.heap.size + 1, 5, none⟩ = some (.string ⟨#[]⟩) := hz.cell 5
          have f5 : w2.frozen? ⟨w.heap.size + 1, 5, none⟩ = false := hz.frozen 5
          have z6 : w2.cell? ⟨w.heap.size + 1, 6, none⟩ = some (.int .i64 0) := hz.cell 6
          have f6 : w2.frozen? ⟨w.heap.size + 1, 6, none⟩ = false := hz.frozen 6
          have z7 : w2.cell? ⟨w.heap.size + 1, 7, none⟩ = some (.int .i64 0) := hz.cell 7
          have f7 : w2.frozen? ⟨w.heap.size + 1, 7, none⟩ = false := hz.frozen 7
          have HZ := Lib.hid (And.intro hz (And.intro h2 g2))
          clear hz h2 g2
          go_wp2_with fail
          obtain ⟨hz, h2, g2⟩ := HZ.out
          have b := ((((((((hz.set_ 0 (.int .i64 8)).set_ 1 (.int .i64 0)).set_ 2 (.int .i64 0)).set_ 3 (.int .i64 0)).set_ 4 (.string B)).set_ 5 (.string ⟨#[]⟩)).set_ 6 (.int .i64 0)).set_ 7 (.int .i64 431))
          have e : (((((((((#[.int .i64 0, .int .i64 0, .int .i64 0, .int .i64 0, .string ⟨#[]⟩, .string ⟨#[]⟩, .int .i64 0, .int .i64 0] : Array Value)).setIfInBounds 0 (.int .i64 8)).setIfInBounds 1 (.int .i64 0)).setIfInBounds 2 (.int .i64 0)).setIfInBounds 3 (.int .i64 0)).setIfInBounds 4 (.string B)).setIfInBounds 5 (.string ⟨#[]⟩)).setIfInBounds 6 (.int .i64 0)).setIfInBounds 7 (.int .i64 431) = #[.int .i64 8, .int .i64 0, .int .i64 0, .int .i64 0, .string B, .string ⟨#[]⟩, .int .i64 0, .int .i64 431] := by simp
          rw [e] at b
          refine bodyPost_ret (results_cell_row (p := 4) (ty := 36) (by kernel_rfl) _ _ (w.heap.size + 1) 36 #[.int .i64 8, .int .i64 0, .int .i64 0, .int .i64 0, .string B, .string ⟨#[]⟩, .int .i64 0, .int .i64 431] (0, 0) _ rfl b Tryz.underlying36 rfl (by kernel_rfl)) rfl ?_
          exact ⟨rfl, (((((((((h2.trans (g2.mono h2.size)).setCell (by simp) _).setCell (by simp) _).setCell (by simp) _).setCell (by simp) _).setCell (by simp) _).setCell (by simp) _).setCell (by simp) _).setCell (by simp) _)⟩
        · obtain ⟨h6, h7⟩ : L.size = 0 ∧ lines = 32 := by omega
          have hem : L.toList.isEmpty = true := emp_t' h6
          have hem2 : L.toList = [] := List.isEmpty_iff.1 hem
          have e5 : ((L.size : Int) == 512) = false := by rw [beq_eq_false_iff_ne]; omega
          have e6 : (((lines : Nat) : Int) == 32) = true := by rw [beq_iff_eq]; omega
          clear h4 h5 h6 h7
          go_enter Tryz.func48, Tryz.ntmps48
          go_wp2_with fail
          (with_reducible refine (CB431.out _).mono ?_); rintro e w2 ⟨rfl, g2⟩
          have h2 := H2.out
          have hz : Blk w2 (w.heap.size + 1) 36 #[.int .i64 0, .int .i64 0, .int .i64 0, .int .i64 0, .string ⟨#[]⟩, .string ⟨#[]⟩, .int .i64 0, .int .i64 0] := (FIN.out #[.int .i64 st, .int .i64 size, .int .i64 dg, .int .i64 left, .string B, .string L, .int .i64 lines, .int .i64 status] #[.int .i64 0, .int .i64 0, .int .i64 0, .int .i64 0, .string ⟨#[]⟩, .string ⟨#[]⟩, .int .i64 0, .int .i64 0]).below g2 (by simp)
          have z0 : w2.cell? ⟨w.heap.size + 1, 0, none⟩ = some (.int .i64 0) := hz.cell 0
          have f0 : w2.frozen? ⟨w.heap.size + 1, 0, none⟩ = false := hz.frozen 0
          have z1 : w2.cell? ⟨w.heap.size + 1, 1, none⟩ = some (.int .i64 0) := hz.cell 1
          have f1 : w2.frozen? ⟨w.heap.size + 1, 1, none⟩ = false := hz.frozen 1
          have z2 : w2.cell? ⟨w.heap.size + 1, 2, none⟩ = some (.int .i64 0) := hz.cell 2
          have f2 : w2.frozen? ⟨w.heap.size + 1, 2, none⟩ = false := hz.frozen 2
          have z3 : w2.cell? ⟨w.heap.size + 1, 3, none⟩ = some (.int .i64 0) := hz.cell 3
          have f3 : w2.frozen? ⟨w.heap.size + 1, 3, none⟩ = false := hz.frozen 3
          have z4 : w2.cell? ⟨w.heap.size + 1, 4, none⟩ = some (.string ⟨#[]⟩) := hz.cell 4
          have f4 : w2.frozen? ⟨w.heap.size + 1, 4, none⟩ = false := hz.frozen 4
          have z5 : w2.cell? ⟨w.heap.size + 1, 5, none⟩ = some (.string ⟨#[]⟩) := hz.cell 5
          have f5 : w2.frozen? ⟨w.heap.size + 1, 5, none⟩ = false := hz.frozen 5
          have z6 : w2.cell? ⟨w.heap.size + 1, 6, none⟩ = some (.int .i64 0) := hz.cell 6
          have f6 : w2.frozen? ⟨w.heap.size + 1, 6, none⟩ = false := hz.frozen 6
          have z7 : w2.cell? ⟨w.heap.size + 1, 7, none⟩ = some (.int .i64 0) := hz.cell 7
          have f7 : w2.frozen? ⟨w.heap.size + 1, 7, none⟩ = false := hz.frozen 7
          have HZ := Lib.hid (And.intro hz (And.intro h2 g2))
          clear hz h2 g2
          go_wp2_with fail
          obtain ⟨hz, h2, g2⟩ := HZ.out
          have b := ((((((((hz.set_ 0 (.int .i64 8)).set_ 1 (.int .i64 0)).set_ 2 (.int .i64 0)).set_ 3 (.int .i64 0)).set_ 4 (.string B)).set_ 5 (.string ⟨#[]⟩)).set_ 6 (.int .i64 0)).set_ 7 (.int .i64 431))
          have e : (((((((((#[.int .i64 0, .int .i64 0, .int .i64 0, .int .i64 0, .string ⟨#[]⟩, .string ⟨#[]⟩, .int .i64 0, .int .i64 0] : Array Value)).setIfInBounds 0 (.int .i64 8)).setIfInBounds 1 (.int .i64 0)).setIfInBounds 2 (.int .i64 0)).setIfInBounds 3 (.int .i64 0)).setIfInBounds 4 (.string B)).setIfInBounds 5 (.string ⟨#[]⟩)).setIfInBounds 6 (.int .i64 0)).setIfInBounds 7 (.int .i64 431) = #[.int .i64 8, .int .i64 0, .int .i64 0, .int .i64 0, .string B, .string ⟨#[]⟩, .int .i64 0, .int .i64 431] := by simp
          rw [e] at b
          refine bodyPost_ret (results_cell_row (p := 4) (ty := 36) (by kernel_rfl) _ _ (w.heap.size + 1) 36 #[.int .i64 8, .int .i64 0, .int .i64 0, .int .i64 0, .string B, .string ⟨#[]⟩, .int .i64 0, .int .i64 431] (0, 0) _ rfl b Tryz.underlying36 rfl (by kernel_rfl)) rfl ?_
          exact ⟨rfl, (((((((((h2.trans (g2.mono h2.size)).setCell (by simp) _).setCell (by simp) _).setCell (by simp) _).setCell (by simp) _).setCell (by simp) _).setCell (by simp) _).setCell (by simp) _).setCell (by simp) _)⟩
      · rw [if_neg h4]
        have e5 : ((L.size : Int) == 512) = false := by rw [beq_eq_false_iff_ne]; omega
        have hcv : ∀ (q : World) (b cap : Nat), q.cell? ⟨b, 0, none⟩ = some (.int .u8 x) → (convert 42 9 (.slice (some ⟨b, 0, none⟩) 1 cap)).run Tryz.prog q = .ok (.string bb) q := fun q b cap hq => by
          rw [← hbb]
          exact run_convert_bytes_back (P := Tryz.prog) q 42 9 5 ⟨b, 0, none⟩ cap [UInt8.ofNat x.toNat] Tryz.underlying42 Tryz.underlying5 Tryz.underlying9 (fun j hj => by
            have : j = 0 := by simpa using hj
            subst this
            rw [show (⟨b, 0, none⟩ : Addr).add 0 = ⟨b, 0, none⟩ from rfl, hq]
            congr 2
            simp
            omega)
        rw [hbb]
        have hbs : bb.size = 1 := by rw [← hbb]; rfl
        have s1 : ¬ 9223372036854775806 < L.size := by omega
        have s2 : ¬ 9223372036854775807 < L.size + 1 := by omega
        have s3 : ¬ 9223372036854775807 < L.size + bb.size := by omega
        by_cases h6 : L.size = 0
        · have hem : L.toList.isEmpty = true := emp_t' h6
          have hem2 : L.toList = [] := List.isEmpty_iff.1 hem
          have e6 : (((lines : Nat) : Int) == 32) = false := by rw [beq_eq_false_iff_ne]; omega
          clear h4 h6
          go_enter Tryz.func48, Tryz.ntmps48
          go_wp2_with fail

          refine bodyPost_ret (results_cell_row (p := 4) (ty := 36) (by kernel_rfl) _ _ (w.heap.size + 1) 36 #[.int .i64 st, .int .i64 size, .int .i64 dg, .int .i64 left, .string B, .string (L ++ bb), .int .i64 lines, .int .i64 status] (0, 0) _ rfl ((FIN.out _ _).below ((Below.refl _ _).alloc (Nat.le_refl _) _) (by simp)) Tryz.underlying36 rfl (by kernel_rfl)) rfl ?_
          exact ⟨rfl, (((Below.refl _ _).alloc (Nat.le_refl _) _).alloc (by simp) _).alloc (by simp; omega) _⟩
        · have hem : L.toList.isEmpty = false := emp_f' h6
          have hem2 : ¬ L.toList = [] := fun e => by rw [e] at hem; cases hem
          clear h4 h6
          go_enter Tryz.func48, Tryz.ntmps48
          go_wp2_with fail
          refine bodyPost_ret (results_cell_row (p := 4) (ty := 36) (by kernel_rfl) _ _ (w.heap.size + 1) 36 #[.int .i64 st, .int .i64 size, .int .i64 dg, .int .i64 left, .string B, .string (L ++ bb), .int .i64 lines, .int .i64 status] (0, 0) _ rfl ((FIN.out _ _).below ((Below.refl _ _).alloc (Nat.le_refl _) _) (by simp)) Tryz.underlying36 rfl (by kernel_rfl)) rfl ?_
          exact ⟨rfl, (((Below.refl _ _).alloc (Nat.le_refl _) _).alloc (by simp) _).alloc (by simp; omega) _⟩
end Go.Proofs.YtkbihipgnlglbaaGreatDoor
