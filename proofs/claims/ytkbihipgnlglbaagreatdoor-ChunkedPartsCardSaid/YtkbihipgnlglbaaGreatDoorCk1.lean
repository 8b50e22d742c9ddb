/-
  chunked.powers, formed, Check of a decoder whose fields go together.
-/
import Derived.Test.YtkbihipgnlglbaaGreatDoorRc3
import Derived.Test.YtkbihipgnlglbaaGreatDoorMc3
import Derived.Deep.QuietTactic
import Derived.BigQuiet
namespace Go.Proofs.YtkbihipgnlglbaaGreatDoor
open Go.RowKit

theorem pPowers (n : Nat) (hn : n ≤ 8) (w : World) : Calls Tryz.prog 43 #[.int .i64 (n : Int)] w fun e w' => e = .returned (.int .i64 ((16 ^ n : Nat) : Int)) ∧ w' = w := by
  obtain rfl | rfl | rfl | rfl | rfl | rfl | rfl | rfl | rfl : n = 0 ∨ n = 1 ∨ n = 2 ∨ n = 3 ∨ n = 4 ∨ n = 5 ∨ n = 6 ∨ n = 7 ∨ n = 8 := by omega
  all_goals (
    go_enter Tryz.func43, Tryz.ntmps43
    go_wp2_with fail
    go_ret
    exact ⟨congrArg (fun z => Ending.returned (Value.int .i64 z)) (by decide +kernel), rfl⟩)

set_option maxRecDepth 100000 in
set_option maxHeartbeats 8000000 in
theorem formed0 (size dg left : Nat) (B L : ByteArray) (lines : Nat) (w : World) (hs : size < 16 ^ dg) (hd : dg ≤ 8) (hl : left = 0) (hL : L.size = 0) (hn : lines = 0) 
    (hCA : ∀ w1 : World, Calls Tryz.prog 44 #[.string L, .string ⟨#[13, 10]⟩] w1 fun e w' => e = .returned (.bool false) ∧ Below w1.heap.size w1 w') : Calls Tryz.prog 35 #[.agg (ckA 0 size dg left B L lines 0)] w fun e w' => e = .returned (.bool true) ∧ Below w.heap.size w w' := by
  unfold ckA
  have CP := Lib.hid (fun w => pPowers dg hd w)
  have CA := Lib.hid hCA
  have hs2 : (size : Int) < ((16 ^ dg : Nat) : Int) := by omega
  have g0 := Lib.hid ((Below.refl w.heap.size w).alloc (Nat.le_refl _) (.cells #[.int .i64 0, .int .i64 (size : Int), .int .i64 (dg : Int), .int .i64 (left : Int), .string B, .string L, .int .i64 (lines : Int), .int .i64 0] 36))
  generalize ((16 ^ dg : Nat) : Int) = PW at *
  clear hCA

  subst hl
  subst hn
  have hem : L.toList.isEmpty = true := emp_t' hL
  have hem2 : L.toList = [] := List.isEmpty_iff.1 hem
  have p0 : (w.alloc (.cells #[.int .i64 0, .int .i64 (size : Int), .int .i64 (dg : Int), .int .i64 ((0 : Nat) : Int), .string B, .string L, .int .i64 ((0 : Nat) : Int), .int .i64 0] 36)).cell? ⟨w.heap.size, 0, none⟩ = some (.int .i64 0) := by rw [World.cell?_alloc_new]; rfl
  have p1 : (w.alloc (.cells #[.int .i64 0, .int .i64 (size : Int), .int .i64 (dg : Int), .int .i64 ((0 : Nat) : Int), .string B, .string L, .int .i64 ((0 : Nat) : Int), .int .i64 0] 36)).cell? ⟨w.heap.size, 1, none⟩ = some (.int .i64 (size : Int)) := by rw [World.cell?_alloc_new]; rfl
  have p2 : (w.alloc (.cells #[.int .i64 0, .int .i64 (size : Int), .int .i64 (dg : Int), .int .i64 ((0 : Nat) : Int), .string B, .string L, .int .i64 ((0 : Nat) : Int), .int .i64 0] 36)).cell? ⟨w.heap.size, 2, none⟩ = some (.int .i64 (dg : Int)) := by rw [World.cell?_alloc_new]; rfl
  have p3 : (w.alloc (.cells #[.int .i64 0, .int .i64 (size : Int), .int .i64 (dg : Int), .int .i64 ((0 : Nat) : Int), .string B, .string L, .int .i64 ((0 : Nat) : Int), .int .i64 0] 36)).cell? ⟨w.heap.size, 3, none⟩ = some (.int .i64 ((0 : Nat) : Int)) := by rw [World.cell?_alloc_new]; rfl
  have p4 : (w.alloc (.cells #[.int .i64 0, .int .i64 (size : Int), .int .i64 (dg : Int), .int .i64 ((0 : Nat) : Int), .string B, .string L, .int .i64 ((0 : Nat) : Int), .int .i64 0] 36)).cell? ⟨w.heap.size, 4, none⟩ = some (.string B) := by rw [World.cell?_alloc_new]; rfl
  have p5 : (w.alloc (.cells #[.int .i64 0, .int .i64 (size : Int), .int .i64 (dg : Int), .int .i64 ((0 : Nat) : Int), .string B, .string L, .int .i64 ((0 : Nat) : Int), .int .i64 0] 36)).cell? ⟨w.heap.size, 5, none⟩ = some (.string L) := by rw [World.cell?_alloc_new]; rfl
  have p6 : (w.alloc (.cells #[.int .i64 0, .int .i64 (size : Int), .int .i64 (dg : Int), .int .i64 ((0 : Nat) : Int), .string B, .string L, .int .i64 ((0 : Nat) : Int), .int .i64 0] 36)).cell? ⟨w.heap.size, 6, none⟩ = some (.int .i64 ((0 : Nat) : Int)) := by rw [World.cell?_alloc_new]; rfl
  have p7 : (w.alloc (.cells #[.int .i64 0, .int .i64 (size : Int), .int .i64 (dg : Int), .int .i64 ((0 : Nat) : Int), .string B, .string L, .int .i64 ((0 : Nat) : Int), .int .i64 0] 36)).cell? ⟨w.heap.size, 7, none⟩ = some (.int .i64 0) := by rw [World.cell?_alloc_new]; rfl
  go_enter Tryz.func35, Tryz.ntmps35
  go_wp2_with fail
  go_quiet (first | (go_at_call 43; exact Calls.quiet_of_same (CP.out _)))
  go_wp2_with fail
  (with_reducible refine (CA.out _).mono ?_); rintro e w1 ⟨rfl, g1⟩
  go_wp2_with fail
  go_ret
  exact ⟨rfl, (below_drewN g0.out _).trans (g1.mono g0.out.size)⟩
set_option maxRecDepth 100000 in
set_option maxHeartbeats 8000000 in
theorem formed1 (size dg left : Nat) (B L : ByteArray) (lines : Nat) (w : World) (hs : size < 16 ^ dg) (hd : dg ≤ 8) (h1 : 0 < dg) (hl : left = 0) (hL : L.size = 0) (hn : lines = 0) 
    (hCA : ∀ w1 : World, Calls Tryz.prog 44 #[.string L, .string ⟨#[13, 10]⟩] w1 fun e w' => e = .returned (.bool false) ∧ Below w1.heap.size w1 w') : Calls Tryz.prog 35 #[.agg (ckA 1 size dg left B L lines 0)] w fun e w' => e = .returned (.bool true) ∧ Below w.heap.size w w' := by
  unfold ckA
  have CP := Lib.hid (fun w => pPowers dg hd w)
  have CA := Lib.hid hCA
  have hs2 : (size : Int) < ((16 ^ dg : Nat) : Int) := by omega
  have g0 := Lib.hid ((Below.refl w.heap.size w).alloc (Nat.le_refl _) (.cells #[.int .i64 1, .int .i64 (size : Int), .int .i64 (dg : Int), .int .i64 (left : Int), .string B, .string L, .int .i64 (lines : Int), .int .i64 0] 36))
  generalize ((16 ^ dg : Nat) : Int) = PW at *
  clear hCA

  subst hl
  have h2 : ((dg : Int) == 0) = false := by rw [beq_eq_false_iff_ne]; omega
  subst hn
  have hem : L.toList.isEmpty = true := emp_t' hL
  have hem2 : L.toList = [] := List.isEmpty_iff.1 hem
  have p0 : (w.alloc (.cells #[.int .i64 1, .int .i64 (size : Int), .int .i64 (dg : Int), .int .i64 ((0 : Nat) : Int), .string B, .string L, .int .i64 ((0 : Nat) : Int), .int .i64 0] 36)).cell? ⟨w.heap.size, 0, none⟩ = some (.int .i64 1) := by rw [World.cell?_alloc_new]; rfl
  have p1 : (w.alloc (.cells #[.int .i64 1, .int .i64 (size : Int), .int .i64 (dg : Int), .int .i64 ((0 : Nat) : Int), .string B, .string L, .int .i64 ((0 : Nat) : Int), .int .i64 0] 36)).cell? ⟨w.heap.size, 1, none⟩ = some (.int .i64 (size : Int)) := by rw [World.cell?_alloc_new]; rfl
  have p2 : (w.alloc (.cells #[.int .i64 1, .int .i64 (size : Int), .int .i64 (dg : Int), .int .i64 ((0 : Nat) : Int), .string B, .string L, .int .i64 ((0 : Nat) : Int), .int .i64 0] 36)).cell? ⟨w.heap.size, 2, none⟩ = some (.int .i64 (dg : Int)) := by rw [World.cell?_alloc_new]; rfl
  have p3 : (w.alloc (.cells #[.int .i64 1, .int .i64 (size : Int), .int .i64 (dg : Int), .int .i64 ((0 : Nat) : Int), .string B, .string L, .int .i64 ((0 : Nat) : Int), .int .i64 0] 36)).cell? ⟨w.heap.size, 3, none⟩ = some (.int .i64 ((0 : Nat) : Int)) := by rw [World.cell?_alloc_new]; rfl
  have p4 : (w.alloc (.cells #[.int .i64 1, .int .i64 (size : Int), .int .i64 (dg : Int), .int .i64 ((0 : Nat) : Int), .string B, .string L, .int .i64 ((0 : Nat) : Int), .int .i64 0] 36)).cell? ⟨w.heap.size, 4, none⟩ = some (.string B) := by rw [World.cell?_alloc_new]; rfl
  have p5 : (w.alloc (.cells #[.int .i64 1, .int .i64 (size : Int), .int .i64 (dg : Int), .int .i64 ((0 : Nat) : Int), .string B, .string L, .int .i64 ((0 : Nat) : Int), .int .i64 0] 36)).cell? ⟨w.heap.size, 5, none⟩ = some (.string L) := by rw [World.cell?_alloc_new]; rfl
  have p6 : (w.alloc (.cells #[.int .i64 1, .int .i64 (size : Int), .int .i64 (dg : Int), .int .i64 ((0 : Nat) : Int), .string B, .string L, .int .i64 ((0 : Nat) : Int), .int .i64 0] 36)).cell? ⟨w.heap.size, 6, none⟩ = some (.int .i64 ((0 : Nat) : Int)) := by rw [World.cell?_alloc_new]; rfl
  have p7 : (w.alloc (.cells #[.int .i64 1, .int .i64 (size : Int), .int .i64 (dg : Int), .int .i64 ((0 : Nat) : Int), .string B, .string L, .int .i64 ((0 : Nat) : Int), .int .i64 0] 36)).cell? ⟨w.heap.size, 7, none⟩ = some (.int .i64 0) := by rw [World.cell?_alloc_new]; rfl
  go_enter Tryz.func35, Tryz.ntmps35
  go_wp2_with fail
  go_quiet (first | (go_at_call 43; exact Calls.quiet_of_same (CP.out _)))
  go_wp2_with fail
  (with_reducible refine (CA.out _).mono ?_); rintro e w1 ⟨rfl, g1⟩
  go_wp2_with fail
  go_ret
  exact ⟨rfl, (below_drewN g0.out _).trans (g1.mono g0.out.size)⟩
set_option maxRecDepth 100000 in
set_option maxHeartbeats 8000000 in
theorem formed2 (size dg left : Nat) (B L : ByteArray) (lines : Nat) (w : World) (hs : size < 16 ^ dg) (hd : dg ≤ 8) (hz : size = 0 ∧ dg = 0) (hl : 0 < left) (hL : L.size = 0) (hn : lines = 0) 
    (hCA : ∀ w1 : World, Calls Tryz.prog 44 #[.string L, .string ⟨#[13, 10]⟩] w1 fun e w' => e = .returned (.bool false) ∧ Below w1.heap.size w1 w') : Calls Tryz.prog 35 #[.agg (ckA 2 size dg left B L lines 0)] w fun e w' => e = .returned (.bool true) ∧ Below w.heap.size w w' := by
  unfold ckA
  have CP := Lib.hid (fun w => pPowers dg hd w)
  have CA := Lib.hid hCA
  have hs2 : (size : Int) < ((16 ^ dg : Nat) : Int) := by omega
  have g0 := Lib.hid ((Below.refl w.heap.size w).alloc (Nat.le_refl _) (.cells #[.int .i64 2, .int .i64 (size : Int), .int .i64 (dg : Int), .int .i64 (left : Int), .string B, .string L, .int .i64 (lines : Int), .int .i64 0] 36))
  generalize ((16 ^ dg : Nat) : Int) = PW at *
  clear hCA

  obtain ⟨rfl, rfl⟩ := hz
  have hl2 : (0 : Int) < (left : Int) := by omega
  subst hn
  have hem : L.toList.isEmpty = true := emp_t' hL
  have hem2 : L.toList = [] := List.isEmpty_iff.1 hem
  have p0 : (w.alloc (.cells #[.int .i64 2, .int .i64 ((0 : Nat) : Int), .int .i64 ((0 : Nat) : Int), .int .i64 (left : Int), .string B, .string L, .int .i64 ((0 : Nat) : Int), .int .i64 0] 36)).cell? ⟨w.heap.size, 0, none⟩ = some (.int .i64 2) := by rw [World.cell?_alloc_new]; rfl
  have p1 : (w.alloc (.cells #[.int .i64 2, .int .i64 ((0 : Nat) : Int), .int .i64 ((0 : Nat) : Int), .int .i64 (left : Int), .string B, .string L, .int .i64 ((0 : Nat) : Int), .int .i64 0] 36)).cell? ⟨w.heap.size, 1, none⟩ = some (.int .i64 ((0 : Nat) : Int)) := by rw [World.cell?_alloc_new]; rfl
  have p2 : (w.alloc (.cells #[.int .i64 2, .int .i64 ((0 : Nat) : Int), .int .i64 ((0 : Nat) : Int), .int .i64 (left : Int), .string B, .string L, .int .i64 ((0 : Nat) : Int), .int .i64 0] 36)).cell? ⟨w.heap.size, 2, none⟩ = some (.int .i64 ((0 : Nat) : Int)) := by rw [World.cell?_alloc_new]; rfl
  have p3 : (w.alloc (.cells #[.int .i64 2, .int .i64 ((0 : Nat) : Int), .int .i64 ((0 : Nat) : Int), .int .i64 (left : Int), .string B, .string L, .int .i64 ((0 : Nat) : Int), .int .i64 0] 36)).cell? ⟨w.heap.size, 3, none⟩ = some (.int .i64 (left : Int)) := by rw [World.cell?_alloc_new]; rfl
  have p4 : (w.alloc (.cells #[.int .i64 2, .int .i64 ((0 : Nat) : Int), .int .i64 ((0 : Nat) : Int), .int .i64 (left : Int), .string B, .string L, .int .i64 ((0 : Nat) : Int), .int .i64 0] 36)).cell? ⟨w.heap.size, 4, none⟩ = some (.string B) := by rw [World.cell?_alloc_new]; rfl
  have p5 : (w.alloc (.cells #[.int .i64 2, .int .i64 ((0 : Nat) : Int), .int .i64 ((0 : Nat) : Int), .int .i64 (left : Int), .string B, .string L, .int .i64 ((0 : Nat) : Int), .int .i64 0] 36)).cell? ⟨w.heap.size, 5, none⟩ = some (.string L) := by rw [World.cell?_alloc_new]; rfl
  have p6 : (w.alloc (.cells #[.int .i64 2, .int .i64 ((0 : Nat) : Int), .int .i64 ((0 : Nat) : Int), .int .i64 (left : Int), .string B, .string L, .int .i64 ((0 : Nat) : Int), .int .i64 0] 36)).cell? ⟨w.heap.size, 6, none⟩ = some (.int .i64 ((0 : Nat) : Int)) := by rw [World.cell?_alloc_new]; rfl
  have p7 : (w.alloc (.cells #[.int .i64 2, .int .i64 ((0 : Nat) : Int), .int .i64 ((0 : Nat) : Int), .int .i64 (left : Int), .string B, .string L, .int .i64 ((0 : Nat) : Int), .int .i64 0] 36)).cell? ⟨w.heap.size, 7, none⟩ = some (.int .i64 0) := by rw [World.cell?_alloc_new]; rfl
  go_enter Tryz.func35, Tryz.ntmps35
  go_wp2_with fail
  go_quiet (first | (go_at_call 43; exact Calls.quiet_of_same (CP.out _)))
  go_wp2_with fail
  (with_reducible refine (CA.out _).mono ?_); rintro e w1 ⟨rfl, g1⟩
  go_wp2_with fail
  go_ret
  exact ⟨rfl, (below_drewN g0.out _).trans (g1.mono g0.out.size)⟩
set_option maxRecDepth 100000 in
set_option maxHeartbeats 8000000 in
theorem formed3 (size dg left : Nat) (B L : ByteArray) (lines : Nat) (w : World) (hs : size < 16 ^ dg) (hd : dg ≤ 8) (hz : size = 0 ∧ dg = 0) (hl : left = 0) (hL : L.size = 0) (hn : lines = 0) 
    (hCA : ∀ w1 : World, Calls Tryz.prog 44 #[.string L, .string ⟨#[13, 10]⟩] w1 fun e w' => e = .returned (.bool false) ∧ Below w1.heap.size w1 w') : Calls Tryz.prog 35 #[.agg (ckA 3 size dg left B L lines 0)] w fun e w' => e = .returned (.bool true) ∧ Below w.heap.size w w' := by
  unfold ckA
  have CP := Lib.hid (fun w => pPowers dg hd w)
  have CA := Lib.hid hCA
  have hs2 : (size : Int) < ((16 ^ dg : Nat) : Int) := by omega
  have g0 := Lib.hid ((Below.refl w.heap.size w).alloc (Nat.le_refl _) (.cells #[.int .i64 3, .int .i64 (size : Int), .int .i64 (dg : Int), .int .i64 (left : Int), .string B, .string L, .int .i64 (lines : Int), .int .i64 0] 36))
  generalize ((16 ^ dg : Nat) : Int) = PW at *
  clear hCA

  obtain ⟨rfl, rfl⟩ := hz
  subst hl
  subst hn
  have hem : L.toList.isEmpty = true := emp_t' hL
  have hem2 : L.toList = [] := List.isEmpty_iff.1 hem
  have p0 : (w.alloc (.cells #[.int .i64 3, .int .i64 ((0 : Nat) : Int), .int .i64 ((0 : Nat) : Int), .int .i64 ((0 : Nat) : Int), .string B, .string L, .int .i64 ((0 : Nat) : Int), .int .i64 0] 36)).cell? ⟨w.heap.size, 0, none⟩ = some (.int .i64 3) := by rw [World.cell?_alloc_new]; rfl
  have p1 : (w.alloc (.cells #[.int .i64 3, .int .i64 ((0 : Nat) : Int), .int .i64 ((0 : Nat) : Int), .int .i64 ((0 : Nat) : Int), .string B, .string L, .int .i64 ((0 : Nat) : Int), .int .i64 0] 36)).cell? ⟨w.heap.size, 1, none⟩ = some (.int .i64 ((0 : Nat) : Int)) := by rw [World.cell?_alloc_new]; rfl
  have p2 : (w.alloc (.cells #[.int .i64 3, .int .i64 ((0 : Nat) : Int), .int .i64 ((0 : Nat) : Int), .int .i64 ((0 : Nat) : Int), .string B, .string L, .int .i64 ((0 : Nat) : Int), .int .i64 0] 36)).cell? ⟨w.heap.size, 2, none⟩ = some (.int .i64 ((0 : Nat) : Int)) := by rw [World.cell?_alloc_new]; rfl
  have p3 : (w.alloc (.cells #[.int .i64 3, .int .i64 ((0 : Nat) : Int), .int .i64 ((0 : Nat) : Int), .int .i64 ((0 : Nat) : Int), .string B, .string L, .int .i64 ((0 : Nat) : Int), .int .i64 0] 36)).cell? ⟨w.heap.size, 3, none⟩ = some (.int .i64 ((0 : Nat) : Int)) := by rw [World.cell?_alloc_new]; rfl
  have p4 : (w.alloc (.cells #[.int .i64 3, .int .i64 ((0 : Nat) : Int), .int .i64 ((0 : Nat) : Int), .int .i64 ((0 : Nat) : Int), .string B, .string L, .int .i64 ((0 : Nat) : Int), .int .i64 0] 36)).cell? ⟨w.heap.size, 4, none⟩ = some (.string B) := by rw [World.cell?_alloc_new]; rfl
  have p5 : (w.alloc (.cells #[.int .i64 3, .int .i64 ((0 : Nat) : Int), .int .i64 ((0 : Nat) : Int), .int .i64 ((0 : Nat) : Int), .string B, .string L, .int .i64 ((0 : Nat) : Int), .int .i64 0] 36)).cell? ⟨w.heap.size, 5, none⟩ = some (.string L) := by rw [World.cell?_alloc_new]; rfl
  have p6 : (w.alloc (.cells #[.int .i64 3, .int .i64 ((0 : Nat) : Int), .int .i64 ((0 : Nat) : Int), .int .i64 ((0 : Nat) : Int), .string B, .string L, .int .i64 ((0 : Nat) : Int), .int .i64 0] 36)).cell? ⟨w.heap.size, 6, none⟩ = some (.int .i64 ((0 : Nat) : Int)) := by rw [World.cell?_alloc_new]; rfl
  have p7 : (w.alloc (.cells #[.int .i64 3, .int .i64 ((0 : Nat) : Int), .int .i64 ((0 : Nat) : Int), .int .i64 ((0 : Nat) : Int), .string B, .string L, .int .i64 ((0 : Nat) : Int), .int .i64 0] 36)).cell? ⟨w.heap.size, 7, none⟩ = some (.int .i64 0) := by rw [World.cell?_alloc_new]; rfl
  go_enter Tryz.func35, Tryz.ntmps35
  go_wp2_with fail
  go_quiet (first | (go_at_call 43; exact Calls.quiet_of_same (CP.out _)))
  go_wp2_with fail
  (with_reducible refine (CA.out _).mono ?_); rintro e w1 ⟨rfl, g1⟩
  go_wp2_with fail
  go_ret
  exact ⟨rfl, (below_drewN g0.out _).trans (g1.mono g0.out.size)⟩
set_option maxRecDepth 100000 in
set_option maxHeartbeats 8000000 in
theorem formed4 (size dg left : Nat) (B L : ByteArray) (lines : Nat) (w : World) (hs : size < 16 ^ dg) (hd : dg ≤ 8) (hz : size = 0 ∧ dg = 0) (hl : left = 0) (hL : L.size = 0) (hn : lines = 0) 
    (hCA : ∀ w1 : World, Calls Tryz.prog 44 #[.string L, .string ⟨#[13, 10]⟩] w1 fun e w' => e = .returned (.bool false) ∧ Below w1.heap.size w1 w') : Calls Tryz.prog 35 #[.agg (ckA 4 size dg left B L lines 0)] w fun e w' => e = .returned (.bool true) ∧ Below w.heap.size w w' := by
  unfold ckA
  have CP := Lib.hid (fun w => pPowers dg hd w)
  have CA := Lib.hid hCA
  have hs2 : (size : Int) < ((16 ^ dg : Nat) : Int) := by omega
  have g0 := Lib.hid ((Below.refl w.heap.size w).alloc (Nat.le_refl _) (.cells #[.int .i64 4, .int .i64 (size : Int), .int .i64 (dg : Int), .int .i64 (left : Int), .string B, .string L, .int .i64 (lines : Int), .int .i64 0] 36))
  generalize ((16 ^ dg : Nat) : Int) = PW at *
  clear hCA

  obtain ⟨rfl, rfl⟩ := hz
  subst hl
  subst hn
  have hem : L.toList.isEmpty = true := emp_t' hL
  have hem2 : L.toList = [] := List.isEmpty_iff.1 hem
  have p0 : (w.alloc (.cells #[.int .i64 4, .int .i64 ((0 : Nat) : Int), .int .i64 ((0 : Nat) : Int), .int .i64 ((0 : Nat) : Int), .string B, .string L, .int .i64 ((0 : Nat) : Int), .int .i64 0] 36)).cell? ⟨w.heap.size, 0, none⟩ = some (.int .i64 4) := by rw [World.cell?_alloc_new]; rfl
  have p1 : (w.alloc (.cells #[.int .i64 4, .int .i64 ((0 : Nat) : Int), .int .i64 ((0 : Nat) : Int), .int .i64 ((0 : Nat) : Int), .string B, .string L, .int .i64 ((0 : Nat) : Int), .int .i64 0] 36)).cell? ⟨w.heap.size, 1, none⟩ = some (.int .i64 ((0 : Nat) : Int)) := by rw [World.cell?_alloc_new]; rfl
  have p2 : (w.alloc (.cells #[.int .i64 4, .int .i64 ((0 : Nat) : Int), .int .i64 ((0 : Nat) : Int), .int .i64 ((0 : Nat) : Int), .string B, .string L, .int .i64 ((0 : Nat) : Int), .int .i64 0] 36)).cell? ⟨w.heap.size, 2, none⟩ = some (.int .i64 ((0 : Nat) : Int)) := by rw [World.cell?_alloc_new]; rfl
  have p3 : (w.alloc (.cells #[.int .i64 4, .int .i64 ((0 : Nat) : Int), .int .i64 ((0 : Nat) : Int), .int .i64 ((0 : Nat) : Int), .string B, .string L, .int .i64 ((0 : Nat) : Int), .int .i64 0] 36)).cell? ⟨w.heap.size, 3, none⟩ = some (.int .i64 ((0 : Nat) : Int)) := by rw [World.cell?_alloc_new]; rfl
  have p4 : (w.alloc (.cells #[.int .i64 4, .int .i64 ((0 : Nat) : Int), .int .i64 ((0 : Nat) : Int), .int .i64 ((0 : Nat) : Int), .string B, .string L, .int .i64 ((0 : Nat) : Int), .int .i64 0] 36)).cell? ⟨w.heap.size, 4, none⟩ = some (.string B) := by rw [World.cell?_alloc_new]; rfl
  have p5 : (w.alloc (.cells #[.int .i64 4, .int .i64 ((0 : Nat) : Int), .int .i64 ((0 : Nat) : Int), .int .i64 ((0 : Nat) : Int), .string B, .string L, .int .i64 ((0 : Nat) : Int), .int .i64 0] 36)).cell? ⟨w.heap.size, 5, none⟩ = some (.string L) := by rw [World.cell?_alloc_new]; rfl
  have p6 : (w.alloc (.cells #[.int .i64 4, .int .i64 ((0 : Nat) : Int), .int .i64 ((0 : Nat) : Int), .int .i64 ((0 : Nat) : Int), .string B, .string L, .int .i64 ((0 : Nat) : Int), .int .i64 0] 36)).cell? ⟨w.heap.size, 6, none⟩ = some (.int .i64 ((0 : Nat) : Int)) := by rw [World.cell?_alloc_new]; rfl
  have p7 : (w.alloc (.cells #[.int .i64 4, .int .i64 ((0 : Nat) : Int), .int .i64 ((0 : Nat) : Int), .int .i64 ((0 : Nat) : Int), .string B, .string L, .int .i64 ((0 : Nat) : Int), .int .i64 0] 36)).cell? ⟨w.heap.size, 7, none⟩ = some (.int .i64 0) := by rw [World.cell?_alloc_new]; rfl
  go_enter Tryz.func35, Tryz.ntmps35
  go_wp2_with fail
  go_quiet (first | (go_at_call 43; exact Calls.quiet_of_same (CP.out _)))
  go_wp2_with fail
  (with_reducible refine (CA.out _).mono ?_); rintro e w1 ⟨rfl, g1⟩
  go_wp2_with fail
  go_ret
  exact ⟨rfl, (below_drewN g0.out _).trans (g1.mono g0.out.size)⟩
set_option maxRecDepth 100000 in
set_option maxHeartbeats 8000000 in
theorem formed5 (size dg left : Nat) (B L : ByteArray) (lines : Nat) (w : World) (hs : size < 16 ^ dg) (hd : dg ≤ 8) (hz : size = 0 ∧ dg = 0) (hl : left = 0) (hL : ¬ L.size = 0 → lines < 32) 
    (hCA : ∀ w1 : World, Calls Tryz.prog 44 #[.string L, .string ⟨#[13, 10]⟩] w1 fun e w' => e = .returned (.bool false) ∧ Below w1.heap.size w1 w') : Calls Tryz.prog 35 #[.agg (ckA 5 size dg left B L lines 0)] w fun e w' => e = .returned (.bool true) ∧ Below w.heap.size w w' := by
  unfold ckA
  have CP := Lib.hid (fun w => pPowers dg hd w)
  have CA := Lib.hid hCA
  have hs2 : (size : Int) < ((16 ^ dg : Nat) : Int) := by omega
  have g0 := Lib.hid ((Below.refl w.heap.size w).alloc (Nat.le_refl _) (.cells #[.int .i64 5, .int .i64 (size : Int), .int .i64 (dg : Int), .int .i64 (left : Int), .string B, .string L, .int .i64 (lines : Int), .int .i64 0] 36))
  generalize ((16 ^ dg : Nat) : Int) = PW at *
  clear hCA

  obtain ⟨rfl, rfl⟩ := hz
  subst hl
  by_cases h5 : L.size = 0
  · have hem : L.toList.isEmpty = true := emp_t' h5
    have hem2 : L.toList = [] := List.isEmpty_iff.1 hem
    have p0 : (w.alloc (.cells #[.int .i64 5, .int .i64 ((0 : Nat) : Int), .int .i64 ((0 : Nat) : Int), .int .i64 ((0 : Nat) : Int), .string B, .string L, .int .i64 (lines : Int), .int .i64 0] 36)).cell? ⟨w.heap.size, 0, none⟩ = some (.int .i64 5) := by rw [World.cell?_alloc_new]; rfl
    have p1 : (w.alloc (.cells #[.int .i64 5, .int .i64 ((0 : Nat) : Int), .int .i64 ((0 : Nat) : Int), .int .i64 ((0 : Nat) : Int), .string B, .string L, .int .i64 (lines : Int), .int .i64 0] 36)).cell? ⟨w.heap.size, 1, none⟩ = some (.int .i64 ((0 : Nat) : Int)) := by rw [World.cell?_alloc_new]; rfl
    have p2 : (w.alloc (.cells #[.int .i64 5, .int .i64 ((0 : Nat) : Int), .int .i64 ((0 : Nat) : Int), .int .i64 ((0 : Nat) : Int), .string B, .string L, .int .i64 (lines : Int), .int .i64 0] 36)).cell? ⟨w.heap.size, 2, none⟩ = some (.int .i64 ((0 : Nat) : Int)) := by rw [World.cell?_alloc_new]; rfl
    have p3 : (w.alloc (.cells #[.int .i64 5, .int .i64 ((0 : Nat) : Int), .int .i64 ((0 : Nat) : Int), .int .i64 ((0 : Nat) : Int), .string B, .string L, .int .i64 (lines : Int), .int .i64 0] 36)).cell? ⟨w.heap.size, 3, none⟩ = some (.int .i64 ((0 : Nat) : Int)) := by rw [World.cell?_alloc_new]; rfl
    have p4 : (w.alloc (.cells #[.int .i64 5, .int .i64 ((0 : Nat) : Int), .int .i64 ((0 : Nat) : Int), .int .i64 ((0 : Nat) : Int), .string B, .string L, .int .i64 (lines : Int), .int .i64 0] 36)).cell? ⟨w.heap.size, 4, none⟩ = some (.string B) := by rw [World.cell?_alloc_new]; rfl
    have p5 : (w.alloc (.cells #[.int .i64 5, .int .i64 ((0 : Nat) : Int), .int .i64 ((0 : Nat) : Int), .int .i64 ((0 : Nat) : Int), .string B, .string L, .int .i64 (lines : Int), .int .i64 0] 36)).cell? ⟨w.heap.size, 5, none⟩ = some (.string L) := by rw [World.cell?_alloc_new]; rfl
    have p6 : (w.alloc (.cells #[.int .i64 5, .int .i64 ((0 : Nat) : Int), .int .i64 ((0 : Nat) : Int), .int .i64 ((0 : Nat) : Int), .string B, .string L, .int .i64 (lines : Int), .int .i64 0] 36)).cell? ⟨w.heap.size, 6, none⟩ = some (.int .i64 (lines : Int)) := by rw [World.cell?_alloc_new]; rfl
    have p7 : (w.alloc (.cells #[.int .i64 5, .int .i64 ((0 : Nat) : Int), .int .i64 ((0 : Nat) : Int), .int .i64 ((0 : Nat) : Int), .string B, .string L, .int .i64 (lines : Int), .int .i64 0] 36)).cell? ⟨w.heap.size, 7, none⟩ = some (.int .i64 0) := by rw [World.cell?_alloc_new]; rfl
    go_enter Tryz.func35, Tryz.ntmps35
    go_wp2_with fail
    go_quiet (first | (go_at_call 43; exact Calls.quiet_of_same (CP.out _)))
    go_wp2_with fail
    (with_reducible refine (CA.out _).mono ?_); rintro e w1 ⟨rfl, g1⟩
    go_wp2_with fail
    go_ret
    exact ⟨rfl, (below_drewN g0.out _).trans (g1.mono g0.out.size)⟩
  · have hem : L.toList.isEmpty = false := emp_f' h5
    have hem2 : ¬ L.toList = [] := fun e => by rw [e] at hem; cases hem
    have hl3 : ((lines : Int) == 32) = false := by have := hL h5; rw [beq_eq_false_iff_ne]; omega
    have p0 : (w.alloc (.cells #[.int .i64 5, .int .i64 ((0 : Nat) : Int), .int .i64 ((0 : Nat) : Int), .int .i64 ((0 : Nat) : Int), .string B, .string L, .int .i64 (lines : Int), .int .i64 0] 36)).cell? ⟨w.heap.size, 0, none⟩ = some (.int .i64 5) := by rw [World.cell?_alloc_new]; rfl
    have p1 : (w.alloc (.cells #[.int .i64 5, .int .i64 ((0 : Nat) : Int), .int .i64 ((0 : Nat) : Int), .int .i64 ((0 : Nat) : Int), .string B, .string L, .int .i64 (lines : Int), .int .i64 0] 36)).cell? ⟨w.heap.size, 1, none⟩ = some (.int .i64 ((0 : Nat) : Int)) := by rw [World.cell?_alloc_new]; rfl
    have p2 : (w.alloc (.cells #[.int .i64 5, .int .i64 ((0 : Nat) : Int), .int .i64 ((0 : Nat) : Int), .int .i64 ((0 : Nat) : Int), .string B, .string L, .int .i64 (lines : Int), .int .i64 0] 36)).cell? ⟨w.heap.size, 2, none⟩ = some (.int .i64 ((0 : Nat) : Int)) := by rw [World.cell?_alloc_new]; rfl
    have p3 : (w.alloc (.cells #[.int .i64 5, .int .i64 ((0 : Nat) : Int), .int .i64 ((0 : Nat) : Int), .int .i64 ((0 : Nat) : Int), .string B, .string L, .int .i64 (lines : Int), .int .i64 0] 36)).cell? ⟨w.heap.size, 3, none⟩ = some (.int .i64 ((0 : Nat) : Int)) := by rw [World.cell?_alloc_new]; rfl
    have p4 : (w.alloc (.cells #[.int .i64 5, .int .i64 ((0 : Nat) : Int), .int .i64 ((0 : Nat) : Int), .int .i64 ((0 : Nat) : Int), .string B, .string L, .int .i64 (lines : Int), .int .i64 0] 36)).cell? ⟨w.heap.size, 4, none⟩ = some (.string B) := by rw [World.cell?_alloc_new]; rfl
    have p5 : (w.alloc (.cells #[.int .i64 5, .int .i64 ((0 : Nat) : Int), .int .i64 ((0 : Nat) : Int), .int .i64 ((0 : Nat) : Int), .string B, .string L, .int .i64 (lines : Int), .int .i64 0] 36)).cell? ⟨w.heap.size, 5, none⟩ = some (.string L) := by rw [World.cell?_alloc_new]; rfl
    have p6 : (w.alloc (.cells #[.int .i64 5, .int .i64 ((0 : Nat) : Int), .int .i64 ((0 : Nat) : Int), .int .i64 ((0 : Nat) : Int), .string B, .string L, .int .i64 (lines : Int), .int .i64 0] 36)).cell? ⟨w.heap.size, 6, none⟩ = some (.int .i64 (lines : Int)) := by rw [World.cell?_alloc_new]; rfl
    have p7 : (w.alloc (.cells #[.int .i64 5, .int .i64 ((0 : Nat) : Int), .int .i64 ((0 : Nat) : Int), .int .i64 ((0 : Nat) : Int), .string B, .string L, .int .i64 (lines : Int), .int .i64 0] 36)).cell? ⟨w.heap.size, 7, none⟩ = some (.int .i64 0) := by rw [World.cell?_alloc_new]; rfl
    go_enter Tryz.func35, Tryz.ntmps35
    go_wp2_with fail
    go_quiet (first | (go_at_call 43; exact Calls.quiet_of_same (CP.out _)))
    go_wp2_with fail
    (with_reducible refine (CA.out _).mono ?_); rintro e w1 ⟨rfl, g1⟩
    go_wp2_with fail
    go_ret
    exact ⟨rfl, (below_drewN g0.out _).trans (g1.mono g0.out.size)⟩
set_option maxRecDepth 100000 in
set_option maxHeartbeats 8000000 in
theorem formed6 (size dg left : Nat) (B L : ByteArray) (lines : Nat) (w : World) (hs : size < 16 ^ dg) (hd : dg ≤ 8) (hz : size = 0 ∧ dg = 0) (hl : left = 0) (hL : ¬ L.size = 0 → lines < 32) 
    (hCA : ∀ w1 : World, Calls Tryz.prog 44 #[.string L, .string ⟨#[13, 10]⟩] w1 fun e w' => e = .returned (.bool false) ∧ Below w1.heap.size w1 w') : Calls Tryz.prog 35 #[.agg (ckA 6 size dg left B L lines 0)] w fun e w' => e = .returned (.bool true) ∧ Below w.heap.size w w' := by
  unfold ckA
  have CP := Lib.hid (fun w => pPowers dg hd w)
  have CA := Lib.hid hCA
  have hs2 : (size : Int) < ((16 ^ dg : Nat) : Int) := by omega
  have g0 := Lib.hid ((Below.refl w.heap.size w).alloc (Nat.le_refl _) (.cells #[.int .i64 6, .int .i64 (size : Int), .int .i64 (dg : Int), .int .i64 (left : Int), .string B, .string L, .int .i64 (lines : Int), .int .i64 0] 36))
  generalize ((16 ^ dg : Nat) : Int) = PW at *
  clear hCA

  obtain ⟨rfl, rfl⟩ := hz
  subst hl
  by_cases h5 : L.size = 0
  · have hem : L.toList.isEmpty = true := emp_t' h5
    have hem2 : L.toList = [] := List.isEmpty_iff.1 hem
    have p0 : (w.alloc (.cells #[.int .i64 6, .int .i64 ((0 : Nat) : Int), .int .i64 ((0 : Nat) : Int), .int .i64 ((0 : Nat) : Int), .string B, .string L, .int .i64 (lines : Int), .int .i64 0] 36)).cell? ⟨w.heap.size, 0, none⟩ = some (.int .i64 6) := by rw [World.cell?_alloc_new]; rfl
    have p1 : (w.alloc (.cells #[.int .i64 6, .int .i64 ((0 : Nat) : Int), .int .i64 ((0 : Nat) : Int), .int .i64 ((0 : Nat) : Int), .string B, .string L, .int .i64 (lines : Int), .int .i64 0] 36)).cell? ⟨w.heap.size, 1, none⟩ = some (.int .i64 ((0 : Nat) : Int)) := by rw [World.cell?_alloc_new]; rfl
    have p2 : (w.alloc (.cells #[.int .i64 6, .int .i64 ((0 : Nat) : Int), .int .i64 ((0 : Nat) : Int), .int .i64 ((0 : Nat) : Int), .string B, .string L, .int .i64 (lines : Int), .int .i64 0] 36)).cell? ⟨w.heap.size, 2, none⟩ = some (.int .i64 ((0 : Nat) : Int)) := by rw [World.cell?_alloc_new]; rfl
    have p3 : (w.alloc (.cells #[.int .i64 6, .int .i64 ((0 : Nat) : Int), .int .i64 ((0 : Nat) : Int), .int .i64 ((0 : Nat) : Int), .string B, .string L, .int .i64 (lines : Int), .int .i64 0] 36)).cell? ⟨w.heap.size, 3, none⟩ = some (.int .i64 ((0 : Nat) : Int)) := by rw [World.cell?_alloc_new]; rfl
    have p4 : (w.alloc (.cells #[.int .i64 6, .int .i64 ((0 : Nat) : Int), .int .i64 ((0 : Nat) : Int), .int .i64 ((0 : Nat) : Int), .string B, .string L, .int .i64 (lines : Int), .int .i64 0] 36)).cell? ⟨w.heap.size, 4, none⟩ = some (.string B) := by rw [World.cell?_alloc_new]; rfl
    have p5 : (w.alloc (.cells #[.int .i64 6, .int .i64 ((0 : Nat) : Int), .int .i64 ((0 : Nat) : Int), .int .i64 ((0 : Nat) : Int), .string B, .string L, .int .i64 (lines : Int), .int .i64 0] 36)).cell? ⟨w.heap.size, 5, none⟩ = some (.string L) := by rw [World.cell?_alloc_new]; rfl
    have p6 : (w.alloc (.cells #[.int .i64 6, .int .i64 ((0 : Nat) : Int), .int .i64 ((0 : Nat) : Int), .int .i64 ((0 : Nat) : Int), .string B, .string L, .int .i64 (lines : Int), .int .i64 0] 36)).cell? ⟨w.heap.size, 6, none⟩ = some (.int .i64 (lines : Int)) := by rw [World.cell?_alloc_new]; rfl
    have p7 : (w.alloc (.cells #[.int .i64 6, .int .i64 ((0 : Nat) : Int), .int .i64 ((0 : Nat) : Int), .int .i64 ((0 : Nat) : Int), .string B, .string L, .int .i64 (lines : Int), .int .i64 0] 36)).cell? ⟨w.heap.size, 7, none⟩ = some (.int .i64 0) := by rw [World.cell?_alloc_new]; rfl
    go_enter Tryz.func35, Tryz.ntmps35
    go_wp2_with fail
    go_quiet (first | (go_at_call 43; exact Calls.quiet_of_same (CP.out _)))
    go_wp2_with fail
    (with_reducible refine (CA.out _).mono ?_); rintro e w1 ⟨rfl, g1⟩
    go_wp2_with fail
    go_ret
    exact ⟨rfl, (below_drewN g0.out _).trans (g1.mono g0.out.size)⟩
  · have hem : L.toList.isEmpty = false := emp_f' h5
    have hem2 : ¬ L.toList = [] := fun e => by rw [e] at hem; cases hem
    have hl3 : ((lines : Int) == 32) = false := by have := hL h5; rw [beq_eq_false_iff_ne]; omega
    have p0 : (w.alloc (.cells #[.int .i64 6, .int .i64 ((0 : Nat) : Int), .int .i64 ((0 : Nat) : Int), .int .i64 ((0 : Nat) : Int), .string B, .string L, .int .i64 (lines : Int), .int .i64 0] 36)).cell? ⟨w.heap.size, 0, none⟩ = some (.int .i64 6) := by rw [World.cell?_alloc_new]; rfl
    have p1 : (w.alloc (.cells #[.int .i64 6, .int .i64 ((0 : Nat) : Int), .int .i64 ((0 : Nat) : Int), .int .i64 ((0 : Nat) : Int), .string B, .string L, .int .i64 (lines : Int), .int .i64 0] 36)).cell? ⟨w.heap.size, 1, none⟩ = some (.int .i64 ((0 : Nat) : Int)) := by rw [World.cell?_alloc_new]; rfl
    have p2 : (w.alloc (.cells #[.int .i64 6, .int .i64 ((0 : Nat) : Int), .int .i64 ((0 : Nat) : Int), .int .i64 ((0 : Nat) : Int), .string B, .string L, .int .i64 (lines : Int), .int .i64 0] 36)).cell? ⟨w.heap.size, 2, none⟩ = some (.int .i64 ((0 : Nat) : Int)) := by rw [World.cell?_alloc_new]; rfl
    have p3 : (w.alloc (.cells #[.int .i64 6, .int .i64 ((0 : Nat) : Int), .int .i64 ((0 : Nat) : Int), .int .i64 ((0 : Nat) : Int), .string B, .string L, .int .i64 (lines : Int), .int .i64 0] 36)).cell? ⟨w.heap.size, 3, none⟩ = some (.int .i64 ((0 : Nat) : Int)) := by rw [World.cell?_alloc_new]; rfl
    have p4 : (w.alloc (.cells #[.int .i64 6, .int .i64 ((0 : Nat) : Int), .int .i64 ((0 : Nat) : Int), .int .i64 ((0 : Nat) : Int), .string B, .string L, .int .i64 (lines : Int), .int .i64 0] 36)).cell? ⟨w.heap.size, 4, none⟩ = some (.string B) := by rw [World.cell?_alloc_new]; rfl
    have p5 : (w.alloc (.cells #[.int .i64 6, .int .i64 ((0 : Nat) : Int), .int .i64 ((0 : Nat) : Int), .int .i64 ((0 : Nat) : Int), .string B, .string L, .int .i64 (lines : Int), .int .i64 0] 36)).cell? ⟨w.heap.size, 5, none⟩ = some (.string L) := by rw [World.cell?_alloc_new]; rfl
    have p6 : (w.alloc (.cells #[.int .i64 6, .int .i64 ((0 : Nat) : Int), .int .i64 ((0 : Nat) : Int), .int .i64 ((0 : Nat) : Int), .string B, .string L, .int .i64 (lines : Int), .int .i64 0] 36)).cell? ⟨w.heap.size, 6, none⟩ = some (.int .i64 (lines : Int)) := by rw [World.cell?_alloc_new]; rfl
    have p7 : (w.alloc (.cells #[.int .i64 6, .int .i64 ((0 : Nat) : Int), .int .i64 ((0 : Nat) : Int), .int .i64 ((0 : Nat) : Int), .string B, .string L, .int .i64 (lines : Int), .int .i64 0] 36)).cell? ⟨w.heap.size, 7, none⟩ = some (.int .i64 0) := by rw [World.cell?_alloc_new]; rfl
    go_enter Tryz.func35, Tryz.ntmps35
    go_wp2_with fail
    go_quiet (first | (go_at_call 43; exact Calls.quiet_of_same (CP.out _)))
    go_wp2_with fail
    (with_reducible refine (CA.out _).mono ?_); rintro e w1 ⟨rfl, g1⟩
    go_wp2_with fail
    go_ret
    exact ⟨rfl, (below_drewN g0.out _).trans (g1.mono g0.out.size)⟩
set_option maxRecDepth 100000 in
set_option maxHeartbeats 8000000 in
theorem formed7 (size dg left : Nat) (B L : ByteArray) (lines : Nat) (w : World) (hs : size < 16 ^ dg) (hd : dg ≤ 8) (hz : size = 0 ∧ dg = 0) (hl : left = 0) (hL : L.size = 0) 
    (hCA : ∀ w1 : World, Calls Tryz.prog 44 #[.string L, .string ⟨#[13, 10]⟩] w1 fun e w' => e = .returned (.bool false) ∧ Below w1.heap.size w1 w') : Calls Tryz.prog 35 #[.agg (ckA 7 size dg left B L lines 0)] w fun e w' => e = .returned (.bool true) ∧ Below w.heap.size w w' := by
  unfold ckA
  have CP := Lib.hid (fun w => pPowers dg hd w)
  have CA := Lib.hid hCA
  have hs2 : (size : Int) < ((16 ^ dg : Nat) : Int) := by omega
  have g0 := Lib.hid ((Below.refl w.heap.size w).alloc (Nat.le_refl _) (.cells #[.int .i64 7, .int .i64 (size : Int), .int .i64 (dg : Int), .int .i64 (left : Int), .string B, .string L, .int .i64 (lines : Int), .int .i64 0] 36))
  generalize ((16 ^ dg : Nat) : Int) = PW at *
  clear hCA

  obtain ⟨rfl, rfl⟩ := hz
  subst hl
  have hem : L.toList.isEmpty = true := emp_t' hL
  have hem2 : L.toList = [] := List.isEmpty_iff.1 hem
  have p0 : (w.alloc (.cells #[.int .i64 7, .int .i64 ((0 : Nat) : Int), .int .i64 ((0 : Nat) : Int), .int .i64 ((0 : Nat) : Int), .string B, .string L, .int .i64 (lines : Int), .int .i64 0] 36)).cell? ⟨w.heap.size, 0, none⟩ = some (.int .i64 7) := by rw [World.cell?_alloc_new]; rfl
  have p1 : (w.alloc (.cells #[.int .i64 7, .int .i64 ((0 : Nat) : Int), .int .i64 ((0 : Nat) : Int), .int .i64 ((0 : Nat) : Int), .string B, .string L, .int .i64 (lines : Int), .int .i64 0] 36)).cell? ⟨w.heap.size, 1, none⟩ = some (.int .i64 ((0 : Nat) : Int)) := by rw [World.cell?_alloc_new]; rfl
  have p2 : (w.alloc (.cells #[.int .i64 7, .int .i64 ((0 : Nat) : Int), .int .i64 ((0 : Nat) : Int), .int .i64 ((0 : Nat) : Int), .string B, .string L, .int .i64 (lines : Int), .int .i64 0] 36)).cell? ⟨w.heap.size, 2, none⟩ = some (.int .i64 ((0 : Nat) : Int)) := by rw [World.cell?_alloc_new]; rfl
  have p3 : (w.alloc (.cells #[.int .i64 7, .int .i64 ((0 : Nat) : Int), .int .i64 ((0 : Nat) : Int), .int .i64 ((0 : Nat) : Int), .string B, .string L, .int .i64 (lines : Int), .int .i64 0] 36)).cell? ⟨w.heap.size, 3, none⟩ = some (.int .i64 ((0 : Nat) : Int)) := by rw [World.cell?_alloc_new]; rfl
  have p4 : (w.alloc (.cells #[.int .i64 7, .int .i64 ((0 : Nat) : Int), .int .i64 ((0 : Nat) : Int), .int .i64 ((0 : Nat) : Int), .string B, .string L, .int .i64 (lines : Int), .int .i64 0] 36)).cell? ⟨w.heap.size, 4, none⟩ = some (.string B) := by rw [World.cell?_alloc_new]; rfl
  have p5 : (w.alloc (.cells #[.int .i64 7, .int .i64 ((0 : Nat) : Int), .int .i64 ((0 : Nat) : Int), .int .i64 ((0 : Nat) : Int), .string B, .string L, .int .i64 (lines : Int), .int .i64 0] 36)).cell? ⟨w.heap.size, 5, none⟩ = some (.string L) := by rw [World.cell?_alloc_new]; rfl
  have p6 : (w.alloc (.cells #[.int .i64 7, .int .i64 ((0 : Nat) : Int), .int .i64 ((0 : Nat) : Int), .int .i64 ((0 : Nat) : Int), .string B, .string L, .int .i64 (lines : Int), .int .i64 0] 36)).cell? ⟨w.heap.size, 6, none⟩ = some (.int .i64 (lines : Int)) := by rw [World.cell?_alloc_new]; rfl
  have p7 : (w.alloc (.cells #[.int .i64 7, .int .i64 ((0 : Nat) : Int), .int .i64 ((0 : Nat) : Int), .int .i64 ((0 : Nat) : Int), .string B, .string L, .int .i64 (lines : Int), .int .i64 0] 36)).cell? ⟨w.heap.size, 7, none⟩ = some (.int .i64 0) := by rw [World.cell?_alloc_new]; rfl
  go_enter Tryz.func35, Tryz.ntmps35
  go_wp2_with fail
  go_quiet (first | (go_at_call 43; exact Calls.quiet_of_same (CP.out _)))
  go_wp2_with fail
  (with_reducible refine (CA.out _).mono ?_); rintro e w1 ⟨rfl, g1⟩
  go_wp2_with fail
  go_ret
  exact ⟨rfl, (below_drewN g0.out _).trans (g1.mono g0.out.size)⟩
set_option maxRecDepth 100000 in
set_option maxHeartbeats 8000000 in
theorem formed8 (size dg left status : Nat) (B L : ByteArray) (lines : Nat) (w : World) (hs : size < 16 ^ dg) (hd : dg ≤ 8) (hz : size = 0 ∧ dg = 0) (hl : left = 0) (hL : L.size = 0) (hn : lines = 0) (ht : status = 400 ∨ status = 413 ∨ status = 431) 
    (hCA : ∀ w1 : World, Calls Tryz.prog 44 #[.string L, .string ⟨#[13, 10]⟩] w1 fun e w' => e = .returned (.bool false) ∧ Below w1.heap.size w1 w') : Calls Tryz.prog 35 #[.agg (ckA 8 size dg left B L lines status)] w fun e w' => e = .returned (.bool true) ∧ Below w.heap.size w w' := by
  unfold ckA
  have CP := Lib.hid (fun w => pPowers dg hd w)
  have CA := Lib.hid hCA
  have hs2 : (size : Int) < ((16 ^ dg : Nat) : Int) := by omega
  have g0 := Lib.hid ((Below.refl w.heap.size w).alloc (Nat.le_refl _) (.cells #[.int .i64 8, .int .i64 (size : Int), .int .i64 (dg : Int), .int .i64 (left : Int), .string B, .string L, .int .i64 (lines : Int), .int .i64 (status : Int)] 36))
  generalize ((16 ^ dg : Nat) : Int) = PW at *
  clear hCA

  obtain ⟨sx, hsx⟩ : ∃ sx : Int, (status : Int) = sx := ⟨_, rfl⟩
  have ht1 : (sx != 0) = true := by rw [bne_iff_ne]; omega
  rw [hsx] at g0 ⊢
  obtain ⟨rfl, rfl⟩ := hz
  subst hl
  subst hn
  have hem : L.toList.isEmpty = true := emp_t' hL
  have hem2 : L.toList = [] := List.isEmpty_iff.1 hem
  have p0 : (w.alloc (.cells #[.int .i64 8, .int .i64 ((0 : Nat) : Int), .int .i64 ((0 : Nat) : Int), .int .i64 ((0 : Nat) : Int), .string B, .string L, .int .i64 ((0 : Nat) : Int), .int .i64 sx] 36)).cell? ⟨w.heap.size, 0, none⟩ = some (.int .i64 8) := by rw [World.cell?_alloc_new]; rfl
  have p1 : (w.alloc (.cells #[.int .i64 8, .int .i64 ((0 : Nat) : Int), .int .i64 ((0 : Nat) : Int), .int .i64 ((0 : Nat) : Int), .string B, .string L, .int .i64 ((0 : Nat) : Int), .int .i64 sx] 36)).cell? ⟨w.heap.size, 1, none⟩ = some (.int .i64 ((0 : Nat) : Int)) := by rw [World.cell?_alloc_new]; rfl
  have p2 : (w.alloc (.cells #[.int .i64 8, .int .i64 ((0 : Nat) : Int), .int .i64 ((0 : Nat) : Int), .int .i64 ((0 : Nat) : Int), .string B, .string L, .int .i64 ((0 : Nat) : Int), .int .i64 sx] 36)).cell? ⟨w.heap.size, 2, none⟩ = some (.int .i64 ((0 : Nat) : Int)) := by rw [World.cell?_alloc_new]; rfl
  have p3 : (w.alloc (.cells #[.int .i64 8, .int .i64 ((0 : Nat) : Int), .int .i64 ((0 : Nat) : Int), .int .i64 ((0 : Nat) : Int), .string B, .string L, .int .i64 ((0 : Nat) : Int), .int .i64 sx] 36)).cell? ⟨w.heap.size, 3, none⟩ = some (.int .i64 ((0 : Nat) : Int)) := by rw [World.cell?_alloc_new]; rfl
  have p4 : (w.alloc (.cells #[.int .i64 8, .int .i64 ((0 : Nat) : Int), .int .i64 ((0 : Nat) : Int), .int .i64 ((0 : Nat) : Int), .string B, .string L, .int .i64 ((0 : Nat) : Int), .int .i64 sx] 36)).cell? ⟨w.heap.size, 4, none⟩ = some (.string B) := by rw [World.cell?_alloc_new]; rfl
  have p5 : (w.alloc (.cells #[.int .i64 8, .int .i64 ((0 : Nat) : Int), .int .i64 ((0 : Nat) : Int), .int .i64 ((0 : Nat) : Int), .string B, .string L, .int .i64 ((0 : Nat) : Int), .int .i64 sx] 36)).cell? ⟨w.heap.size, 5, none⟩ = some (.string L) := by rw [World.cell?_alloc_new]; rfl
  have p6 : (w.alloc (.cells #[.int .i64 8, .int .i64 ((0 : Nat) : Int), .int .i64 ((0 : Nat) : Int), .int .i64 ((0 : Nat) : Int), .string B, .string L, .int .i64 ((0 : Nat) : Int), .int .i64 sx] 36)).cell? ⟨w.heap.size, 6, none⟩ = some (.int .i64 ((0 : Nat) : Int)) := by rw [World.cell?_alloc_new]; rfl
  have p7 : (w.alloc (.cells #[.int .i64 8, .int .i64 ((0 : Nat) : Int), .int .i64 ((0 : Nat) : Int), .int .i64 ((0 : Nat) : Int), .string B, .string L, .int .i64 ((0 : Nat) : Int), .int .i64 sx] 36)).cell? ⟨w.heap.size, 7, none⟩ = some (.int .i64 sx) := by rw [World.cell?_alloc_new]; rfl
  go_enter Tryz.func35, Tryz.ntmps35
  go_wp2_with fail
  go_quiet (first | (go_at_call 43; exact Calls.quiet_of_same (CP.out _)))
  go_wp2_with fail
  (with_reducible refine (CA.out _).mono ?_); rintro e w1 ⟨rfl, g1⟩
  go_wp2_with fail
  go_ret
  exact ⟨rfl, (below_drewN g0.out _).trans (g1.mono g0.out.size)⟩
end Go.Proofs.YtkbihipgnlglbaaGreatDoor
