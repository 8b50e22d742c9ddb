/-
  The reference of chunked bodies: bad, sized.
-/
import Derived.Test.YtkbihipgnlglbaaGreatDoorRc1
namespace Go.Proofs.YtkbihipgnlglbaaGreatDoor
open Go.RowKit

/-- a decoder as a value's cells -/
def ckA (st size dg left : Int) (B L : ByteArray) (lines status : Int) : Array Value := #[.int .i64 st, .int .i64 size, .int .i64 dg, .int .i64 left, .string B, .string L, .int .i64 lines, .int .i64 status]
set_option maxRecDepth 100000 in
set_option maxHeartbeats 4000000 in
theorem rBad (st size dg left : Int) (B L : ByteArray) (lines status s : Int) (w : World) : Calls Tryz.prog 50 #[.agg (ckA st size dg left B L lines status), .int .i64 s] w fun e w' => e = .returned (.agg (ckA 8 0 0 0 B ⟨#[]⟩ 0 s)) ∧ Below w.heap.size w w' := by
  unfold ckA
  go_enter Tryz.func50, Tryz.ntmps50
  go_wp2_with fail
  have hb := Blk.new (w.alloc (.cells #[.int .i64 st, .int .i64 size, .int .i64 dg, .int .i64 left, .string B, .string L, .int .i64 lines, .int .i64 status] 36)) 36 #[.int .i64 8, .int .i64 0, .int .i64 0, .int .i64 0, .string B, .string ⟨#[]⟩, .int .i64 0, .int .i64 s]
  rw [World.size_alloc] at hb
  refine bodyPost_ret (results_cell_row (p := 4) (ty := 36) (by kernel_rfl) _ _ (w.heap.size + 1) 36 #[.int .i64 8, .int .i64 0, .int .i64 0, .int .i64 0, .string B, .string ⟨#[]⟩, .int .i64 0, .int .i64 s] (0, 0) _ rfl hb Tryz.underlying36 rfl (by kernel_rfl)) rfl ?_
  exact ⟨rfl, ((Below.refl _ _).alloc (Nat.le_refl _) _).alloc (by simp) _⟩

set_option maxRecDepth 100000 in
set_option maxHeartbeats 4000000 in
theorem rSized (st dg left : Int) (size : Nat) (B L : ByteArray) (lines status : Int) (w : World) (hB : B.size ≤ 2048) (hs : size < 4294967296) : Calls Tryz.prog 47 #[.agg (ckA st size dg left B L lines status)] w fun e w' => e = .returned (.agg (if size = 0 then ckA 5 0 0 0 B ⟨#[]⟩ 0 0 else if 2048 < B.size + size then ckA 8 0 0 0 B ⟨#[]⟩ 0 413 else ckA 2 0 0 size B ⟨#[]⟩ 0 0)) ∧ Below w.heap.size w w' := by
  have cB := fun w => rBad st size dg left B L lines status 413 w
  unfold ckA at cB ⊢
  have CB := Lib.hid cB
  clear cB
  have fin : ∀ (c : Array Value), c.size = 8 → Blk ((w.alloc (.cells #[.int .i64 st, .int .i64 (size : Int), .int .i64 dg, .int .i64 left, .string B, .string L, .int .i64 lines, .int .i64 status] 36)).alloc (.cells c 36)) (w.heap.size + 1) 36 c := fun c _ => by
    have hb := Blk.new (w.alloc (.cells #[.int .i64 st, .int .i64 (size : Int), .int .i64 dg, .int .i64 left, .string B, .string L, .int .i64 lines, .int .i64 status] 36)) 36 c
    rw [World.size_alloc] at hb
    exact hb
  have FIN := Lib.hid fin
  clear fin
  by_cases h1 : size = 0
  · rw [if_pos h1]
    subst h1
    go_enter Tryz.func47, Tryz.ntmps47
    go_wp2_with fail
    refine bodyPost_ret (results_cell_row (p := 2) (ty := 36) (by kernel_rfl) _ _ (w.heap.size + 1) 36 #[.int .i64 5, .int .i64 0, .int .i64 0, .int .i64 0, .string B, .string ⟨#[]⟩, .int .i64 0, .int .i64 0] (0, 0) _ rfl (FIN.out _ rfl) Tryz.underlying36 rfl (by kernel_rfl)) rfl ?_
    exact ⟨rfl, ((Below.refl _ _).alloc (Nat.le_refl _) _).alloc (by simp) _⟩
  · rw [if_neg h1]
    have e1 : ((size : Int) == 0) = false := by rw [beq_eq_false_iff_ne]; omega
    by_cases h2 : 2048 < B.size + size
    · rw [if_pos h2]
      have e2 : decide ((2048 : Int) < (B.size : Int) + (size : Int)) = true := by simp; omega
      have e3 : (2048 : Int) < (B.size : Int) + (size : Int) := by omega
      clear h2 h1
      have h2 : Below w.heap.size w ((w.alloc (.cells #[.int .i64 st, .int .i64 (size : Int), .int .i64 dg, .int .i64 left, .string B, .string L, .int .i64 lines, .int .i64 status] 36)).alloc (.cells #[.int .i64 0, .int .i64 0, .int .i64 0, .int .i64 0, .string ⟨#[]⟩, .string ⟨#[]⟩, .int .i64 0, .int .i64 0] 36)) := ((Below.refl _ _).alloc (Nat.le_refl _) _).alloc (by simp) _
      have H2 := Lib.hid h2
      clear h2
      go_enter Tryz.func47, Tryz.ntmps47
      go_wp2_with fail
      (with_reducible refine (CB.out _).mono ?_); rintro e w2 ⟨rfl, g2⟩
      have h2 := H2.out
      have hz : Blk w2 (w.heap.size + 1) 36 #[.int .i64 0, .int .i64 0, .int .i64 0, .int .i64 0, .string ⟨#[]⟩, .string ⟨#[]⟩, .int .i64 0, .int .i64 0] := (FIN.out #[.int .i64 0, .int .i64 0, .int .i64 0, .int .i64 0, .string ⟨#[]⟩, .string ⟨#[]⟩, .int .i64 0, .int .i64 0] rfl).below g2 (by simp)
      have z0 : w2.cell? ⟨w.heap.size + 1, 0, none⟩ = some (.int .i64 0) := hz.cell 0
      have f0 : w2.frozen? ⟨w.heap.size + 1, 0, none⟩ = false := hz.frozen 0
      have z1 : w2.cell? ⟨w.heap.size + 1, 1, none⟩ = some (.int .i64 0) := hz.cell 1
      have f1 : w2.frozen? ⟨w.heap.size + 1, 1, none⟩ = false := hz.frozen 1
      have z2 : w2.cell? ⟨w.heap.size + 1, 2, none⟩ = some (.int .i64 0) := hz.cell 2
      have f2 : w2.frozen? ⟨w.heap.size + 1, 2, none⟩ = false := hz.frozen 2
      have z3 : w2.cell? ⟨w.heap.size + 1, 3, none⟩ = some (.int .i64 0) := hz.cell 3
      have f3 : w2.frozen? ⟨w.heap.size + 1, 3, none⟩ = false := hz.frozen 3
      have z4 : w2.cell? ⟨w.heap.size + 1, 4, none⟩ = some (.string ⟨#[]⟩) := hz.cell 4
      have f4 : w2.frozen? ⟨w.heap.size + 1, 4, none⟩ = false := hz.frozen 4
      have z5 : w2.cell? ⟨w.heap.size + 1, 5, none⟩ = some (.string ⟨#[]⟩) := hz.cell 5
      have f5 : w2.frozen? ⟨w.heap.size + 1, 5, none⟩ = false := hz.frozen 5
      have z6 : w2.cell? ⟨w.heap.size + 1, 6, none⟩ = some (.int .i64 0) := hz.cell 6
      have f6 : w2.frozen? ⟨w.heap.size + 1, 6, none⟩ = false := hz.frozen 6
      have z7 : w2.cell? ⟨w.heap.size + 1, 7, none⟩ = some (.int .i64 0) := hz.cell 7
      have f7 : w2.frozen? ⟨w.heap.size + 1, 7, none⟩ = false := hz.frozen 7
      have HZ := Lib.hid (And.intro hz (And.intro h2 g2))
      clear hz h2 g2
      go_wp2_with fail
      obtain ⟨hz, h2, g2⟩ := HZ.out
      have b := ((((((((hz.set_ 0 (.int .i64 8)).set_ 1 (.int .i64 0)).set_ 2 (.int .i64 0)).set_ 3 (.int .i64 0)).set_ 4 (.string B)).set_ 5 (.string ⟨#[]⟩)).set_ 6 (.int .i64 0)).set_ 7 (.int .i64 413))
      have e : (((((((((#[.int .i64 0, .int .i64 0, .int .i64 0, .int .i64 0, .string ⟨#[]⟩, .string ⟨#[]⟩, .int .i64 0, .int .i64 0] : Array Value)).setIfInBounds 0 (.int .i64 8)).setIfInBounds 1 (.int .i64 0)).setIfInBounds 2 (.int .i64 0)).setIfInBounds 3 (.int .i64 0)).setIfInBounds 4 (.string B)).setIfInBounds 5 (.string ⟨#[]⟩)).setIfInBounds 6 (.int .i64 0)).setIfInBounds 7 (.int .i64 413) = #[.int .i64 8, .int .i64 0, .int .i64 0, .int .i64 0, .string B, .string ⟨#[]⟩, .int .i64 0, .int .i64 413] := by simp
      rw [e] at b
      refine bodyPost_ret (results_cell_row (p := 2) (ty := 36) (by kernel_rfl) _ _ (w.heap.size + 1) 36 #[.int .i64 8, .int .i64 0, .int .i64 0, .int .i64 0, .string B, .string ⟨#[]⟩, .int .i64 0, .int .i64 413] (0, 0) _ rfl b Tryz.underlying36 rfl (by kernel_rfl)) rfl ?_
      exact ⟨rfl, (((((((((h2.trans (g2.mono h2.size)).setCell (by simp) _).setCell (by simp) _).setCell (by simp) _).setCell (by simp) _).setCell (by simp) _).setCell (by simp) _).setCell (by simp) _).setCell (by simp) _)⟩
    · rw [if_neg h2]
      have e2 : decide ((2048 : Int) < (B.size : Int) + (size : Int)) = false := by simp; omega
      have e3 : (B.size : Int) + (size : Int) ≤ 2048 := by omega
      clear h2 h1
      go_enter Tryz.func47, Tryz.ntmps47
      go_wp2_with fail
      refine bodyPost_ret (results_cell_row (p := 2) (ty := 36) (by kernel_rfl) _ _ (w.heap.size + 1) 36 #[.int .i64 2, .int .i64 0, .int .i64 0, .int .i64 (size : Int), .string B, .string ⟨#[]⟩, .int .i64 0, .int .i64 0] (0, 0) _ rfl (FIN.out _ rfl) Tryz.underlying36 rfl (by kernel_rfl)) rfl ?_
      exact ⟨rfl, ((Below.refl _ _).alloc (Nat.le_refl _) _).alloc (by simp) _⟩
end Go.Proofs.YtkbihipgnlglbaaGreatDoor
