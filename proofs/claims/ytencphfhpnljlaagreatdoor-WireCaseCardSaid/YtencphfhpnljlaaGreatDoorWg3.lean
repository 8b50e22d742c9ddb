/-
  The reference of chunked bodies: bad, sized. chunked.powers, formed, Check of a decoder whose fields go together. chunked.Check of a decoder whose fields go together. strings.ContainsAny of CR and LF in a line of any bytes that has neither. strings.IndexAny and ContainsAny of CR and LF in a line of any bytes that has neither. The line of a decoder has neither CR nor LF.
-/
import Derived.Test.YtencphfhpnljlaaGreatDoorWg2
import Derived.Test.YtencphfhpnljlaaGreatDoorWg1
import Derived.Deep.QuietTactic
import Derived.BigQuiet
import Derived.Laws.RangeAny
import Derived.Laws.Runes
import Derived.Lib.OthersKept
import Derived.Shelf.Strings.Runes
import Derived.LoopTactic
import Derived.WalkMore
import Derived.Deep.RegionHeld3
import Derived.Deep.RegionWith
import Derived.Lib.SpaceU
namespace Go.Proofs.YtencphfhpnljlaaGreatDoor

section
open Go.RowKit

/-- a decoder as a value's cells -/
def ckA (st size dg left : Int) (B L : ByteArray) (lines status : Int) : Array Value := #[.int .i64 st, .int .i64 size, .int .i64 dg, .int .i64 left, .string B, .string L, .int .i64 lines, .int .i64 status]
end

section
open Go.RowKit

theorem pPowers (n : Nat) (hn : n ≤ 8) (w : World) : Calls Tryz.prog 162 #[.int .i64 (n : Int)] w fun e w' => e = .returned (.int .i64 ((16 ^ n : Nat) : Int)) ∧ w' = w := by
  obtain rfl | rfl | rfl | rfl | rfl | rfl | rfl | rfl | rfl : n = 0 ∨ n = 1 ∨ n = 2 ∨ n = 3 ∨ n = 4 ∨ n = 5 ∨ n = 6 ∨ n = 7 ∨ n = 8 := by omega
  all_goals (
    go_enter Tryz.func162, Tryz.ntmps162
    go_wp2_with fail
    go_ret
    exact ⟨congrArg (fun z => Ending.returned (Value.int .i64 z)) (by decide +kernel), rfl⟩)

set_option maxRecDepth 100000 in
set_option maxHeartbeats 8000000 in
theorem formed0 (size dg left : Nat) (B L : ByteArray) (lines : Nat) (w : World) (hs : size < 16 ^ dg) (hd : dg ≤ 8) (hl : left = 0) (hL : L.size = 0) (hn : lines = 0) 
    (hCA : ∀ w1 : World, Calls Tryz.prog 163 #[.string L, .string ⟨#[13, 10]⟩] w1 fun e w' => e = .returned (.bool false) ∧ Below w1.heap.size w1 w') : Calls Tryz.prog 141 #[.agg (ckA 0 size dg left B L lines 0)] w fun e w' => e = .returned (.bool true) ∧ Below w.heap.size w w' := by
  unfold ckA
  have CP := Lib.hid (fun w => pPowers dg hd w)
  have CA := Lib.hid hCA
  have hs2 : (size : Int) < ((16 ^ dg : Nat) : Int) := by omega
  have g0 := Lib.hid ((Below.refl w.heap.size w).alloc (Nat.le_refl _) (.cells #[.int .i64 0, .int .i64 (size : Int), .int .i64 (dg : Int), .int .i64 (left : Int), .string B, .string L, .int .i64 (lines : Int), .int .i64 0] 32))
  generalize ((16 ^ dg : Nat) : Int) = PW at *
  clear hCA

  subst hl
  subst hn
  have hem : L.toList.isEmpty = true := emp_t' hL
  have hem2 : L.toList = [] := List.isEmpty_iff.1 hem
  have p0 : (w.alloc (.cells #[.int .i64 0, .int .i64 (size : Int), .int .i64 (dg : Int), .int .i64 ((0 : Nat) : Int), .string B, .string L, .int .i64 ((0 : Nat) : Int), .int .i64 0] 32)).cell? ⟨w.heap.size, 0, none⟩ = some (.int .i64 0) := by rw [World.cell?_alloc_new]; rfl
  have p1 : (w.alloc (.cells #[.int .i64 0, .int .i64 (size : Int), .int .i64 (dg : Int), .int .i64 ((0 : Nat) : Int), .string B, .string L, .int .i64 ((0 : Nat) : Int), .int .i64 0] 32)).cell? ⟨w.heap.size, 1, none⟩ = some (.int .i64 (size : Int)) := by rw [World.cell?_alloc_new]; rfl
  have p2 : (w.alloc (.cells #[.int .i64 0, .int .i64 (size : Int), .int .i64 (dg : Int), .int .i64 ((0 : Nat) : Int), .string B, .string L, .int .i64 ((0 : Nat) : Int), .int .i64 0] 32)).cell? ⟨w.heap.size, 2, none⟩ = some (.int .i64 (dg : Int)) := by rw [World.cell?_alloc_new]; rfl
  have p3 : (w.alloc (.cells #[.int .i64 0, .int .i64 (size : Int), .int .i64 (dg : Int), .int .i64 ((0 : Nat) : Int), .string B, .string L, .int .i64 ((0 : Nat) : Int), .int .i64 0] 32)).cell? ⟨w.heap.size, 3, none⟩ = some (.int .i64 ((0 : Nat) : Int)) := by rw [World.cell?_alloc_new]; rfl
  have p4 : (w.alloc (.cells #[.int .i64 0, .int .i64 (size : Int), .int .i64 (dg : Int), .int .i64 ((0 : Nat) : Int), .string B, .string L, .int .i64 ((0 : Nat) : Int), .int .i64 0] 32)).cell? ⟨w.heap.size, 4, none⟩ = some (.string B) := by rw [World.cell?_alloc_new]; rfl
  have p5 : (w.alloc (.cells #[.int .i64 0, .int .i64 (size : Int), .int .i64 (dg : Int), .int .i64 ((0 : Nat) : Int), .string B, .string L, .int .i64 ((0 : Nat) : Int), .int .i64 0] 32)).cell? ⟨w.heap.size, 5, none⟩ = some (.string L) := by rw [World.cell?_alloc_new]; rfl
  have p6 : (w.alloc (.cells #[.int .i64 0, .int .i64 (size : Int), .int .i64 (dg : Int), .int .i64 ((0 : Nat) : Int), .string B, .string L, .int .i64 ((0 : Nat) : Int), .int .i64 0] 32)).cell? ⟨w.heap.size, 6, none⟩ = some (.int .i64 ((0 : Nat) : Int)) := by rw [World.cell?_alloc_new]; rfl
  have p7 : (w.alloc (.cells #[.int .i64 0, .int .i64 (size : Int), .int .i64 (dg : Int), .int .i64 ((0 : Nat) : Int), .string B, .string L, .int .i64 ((0 : Nat) : Int), .int .i64 0] 32)).cell? ⟨w.heap.size, 7, none⟩ = some (.int .i64 0) := by rw [World.cell?_alloc_new]; rfl
  go_enter Tryz.func141, Tryz.ntmps141
  go_wp2_with fail
  go_quiet (first | (go_at_call 162; exact Calls.quiet_of_same (CP.out _)))
  go_wp2_with fail
  (with_reducible refine (CA.out _).mono ?_); rintro e w1 ⟨rfl, g1⟩
  go_wp2_with fail
  go_ret
  exact ⟨rfl, (below_drewN g0.out _).trans (g1.mono g0.out.size)⟩
set_option maxRecDepth 100000 in
set_option maxHeartbeats 8000000 in
theorem formed1 (size dg left : Nat) (B L : ByteArray) (lines : Nat) (w : World) (hs : size < 16 ^ dg) (hd : dg ≤ 8) (h1 : 0 < dg) (hl : left = 0) (hL : L.size = 0) (hn : lines = 0) 
    (hCA : ∀ w1 : World, Calls Tryz.prog 163 #[.string L, .string ⟨#[13, 10]⟩] w1 fun e w' => e = .returned (.bool false) ∧ Below w1.heap.size w1 w') : Calls Tryz.prog 141 #[.agg (ckA 1 size dg left B L lines 0)] w fun e w' => e = .returned (.bool true) ∧ Below w.heap.size w w' := by
  unfold ckA
  have CP := Lib.hid (fun w => pPowers dg hd w)
  have CA := Lib.hid hCA
  have hs2 : (size : Int) < ((16 ^ dg : Nat) : Int) := by omega
  have g0 := Lib.hid ((Below.refl w.heap.size w).alloc (Nat.le_refl _) (.cells #[.int .i64 1, .int .i64 (size : Int), .int .i64 (dg : Int), .int .i64 (left : Int), .string B, .string L, .int .i64 (lines : Int), .int .i64 0] 32))
  generalize ((16 ^ dg : Nat) : Int) = PW at *
  clear hCA

  subst hl
  have h2 : ((dg : Int) == 0) = false := by rw [beq_eq_false_iff_ne]; omega
  subst hn
  have hem : L.toList.isEmpty = true := emp_t' hL
  have hem2 : L.toList = [] := List.isEmpty_iff.1 hem
  have p0 : (w.alloc (.cells #[.int .i64 1, .int .i64 (size : Int), .int .i64 (dg : Int), .int .i64 ((0 : Nat) : Int), .string B, .string L, .int .i64 ((0 : Nat) : Int), .int .i64 0] 32)).cell? ⟨w.heap.size, 0, none⟩ = some (.int .i64 1) := by rw [World.cell?_alloc_new]; rfl
  have p1 : (w.alloc (.cells #[.int .i64 1, .int .i64 (size : Int), .int .i64 (dg : Int), .int .i64 ((0 : Nat) : Int), .string B, .string L, .int .i64 ((0 : Nat) : Int), .int .i64 0] 32)).cell? ⟨w.heap.size, 1, none⟩ = some (.int .i64 (size : Int)) := by rw [World.cell?_alloc_new]; rfl
  have p2 : (w.alloc (.cells #[.int .i64 1, .int .i64 (size : Int), .int .i64 (dg : Int), .int .i64 ((0 : Nat) : Int), .string B, .string L, .int .i64 ((0 : Nat) : Int), .int .i64 0] 32)).cell? ⟨w.heap.size, 2, none⟩ = some (.int .i64 (dg : Int)) := by rw [World.cell?_alloc_new]; rfl
  have p3 : (w.alloc (.cells #[.int .i64 1, .int .i64 (size : Int), .int .i64 (dg : Int), .int .i64 ((0 : Nat) : Int), .string B, .string L, .int .i64 ((0 : Nat) : Int), .int .i64 0] 32)).cell? ⟨w.heap.size, 3, none⟩ = some (.int .i64 ((0 : Nat) : Int)) := by rw [World.cell?_alloc_new]; rfl
  have p4 : (w.alloc (.cells #[.int .i64 1, .int .i64 (size : Int), .int .i64 (dg : Int), .int .i64 ((0 : Nat) : Int), .string B, .string L, .int .i64 ((0 : Nat) : Int), .int .i64 0] 32)).cell? ⟨w.heap.size, 4, none⟩ = some (.string B) := by rw [World.cell?_alloc_new]; rfl
  have p5 : (w.alloc (.cells #[.int .i64 1, .int .i64 (size : Int), .int .i64 (dg : Int), .int .i64 ((0 : Nat) : Int), .string B, .string L, .int .i64 ((0 : Nat) : Int), .int .i64 0] 32)).cell? ⟨w.heap.size, 5, none⟩ = some (.string L) := by rw [World.cell?_alloc_new]; rfl
  have p6 : (w.alloc (.cells #[.int .i64 1, .int .i64 (size : Int), .int .i64 (dg : Int), .int .i64 ((0 : Nat) : Int), .string B, .string L, .int .i64 ((0 : Nat) : Int), .int .i64 0] 32)).cell? ⟨w.heap.size, 6, none⟩ = some (.int .i64 ((0 : Nat) : Int)) := by rw [World.cell?_alloc_new]; rfl
  have p7 : (w.alloc (.cells #[.int .i64 1, .int .i64 (size : Int), .int .i64 (dg : Int), .int .i64 ((0 : Nat) : Int), .string B, .string L, .int .i64 ((0 : Nat) : Int), .int .i64 0] 32)).cell? ⟨w.heap.size, 7, none⟩ = some (.int .i64 0) := by rw [World.cell?_alloc_new]; rfl
  go_enter Tryz.func141, Tryz.ntmps141
  go_wp2_with fail
  go_quiet (first | (go_at_call 162; exact Calls.quiet_of_same (CP.out _)))
  go_wp2_with fail
  (with_reducible refine (CA.out _).mono ?_); rintro e w1 ⟨rfl, g1⟩
  go_wp2_with fail
  go_ret
  exact ⟨rfl, (below_drewN g0.out _).trans (g1.mono g0.out.size)⟩
set_option maxRecDepth 100000 in
set_option maxHeartbeats 8000000 in
theorem formed2 (size dg left : Nat) (B L : ByteArray) (lines : Nat) (w : World) (hs : size < 16 ^ dg) (hd : dg ≤ 8) (hz : size = 0 ∧ dg = 0) (hl : 0 < left) (hL : L.size = 0) (hn : lines = 0) 
    (hCA : ∀ w1 : World, Calls Tryz.prog 163 #[.string L, .string ⟨#[13, 10]⟩] w1 fun e w' => e = .returned (.bool false) ∧ Below w1.heap.size w1 w') : Calls Tryz.prog 141 #[.agg (ckA 2 size dg left B L lines 0)] w fun e w' => e = .returned (.bool true) ∧ Below w.heap.size w w' := by
  unfold ckA
  have CP := Lib.hid (fun w => pPowers dg hd w)
  have CA := Lib.hid hCA
  have hs2 : (size : Int) < ((16 ^ dg : Nat) : Int) := by omega
  have g0 := Lib.hid ((Below.refl w.heap.size w).alloc (Nat.le_refl _) (.cells #[.int .i64 2, .int .i64 (size : Int), .int .i64 (dg : Int), .int .i64 (left : Int), .string B, .string L, .int .i64 (lines : Int), .int .i64 0] 32))
  generalize ((16 ^ dg : Nat) : Int) = PW at *
  clear hCA

  obtain ⟨rfl, rfl⟩ := hz
  have hl2 : (0 : Int) < (left : Int) := by omega
  subst hn
  have hem : L.toList.isEmpty = true := emp_t' hL
  have hem2 : L.toList = [] := List.isEmpty_iff.1 hem
  have p0 : (w.alloc (.cells #[.int .i64 2, .int .i64 ((0 : Nat) : Int), .int .i64 ((0 : Nat) : Int), .int .i64 (left : Int), .string B, .string L, .int .i64 ((0 : Nat) : Int), .int .i64 0] 32)).cell? ⟨w.heap.size, 0, none⟩ = some (.int .i64 2) := by rw [World.cell?_alloc_new]; rfl
  have p1 : (w.alloc (.cells #[.int .i64 2, .int .i64 ((0 : Nat) : Int), .int .i64 ((0 : Nat) : Int), .int .i64 (left : Int), .string B, .string L, .int .i64 ((0 : Nat) : Int), .int .i64 0] 32)).cell? ⟨w.heap.size, 1, none⟩ = some (.int .i64 ((0 : Nat) : Int)) := by rw [World.cell?_alloc_new]; rfl
  have p2 : (w.alloc (.cells #[.int .i64 2, .int .i64 ((0 : Nat) : Int), .int .i64 ((0 : Nat) : Int), .int .i64 (left : Int), .string B, .string L, .int .i64 ((0 : Nat) : Int), .int .i64 0] 32)).cell? ⟨w.heap.size, 2, none⟩ = some (.int .i64 ((0 : Nat) : Int)) := by rw [World.cell?_alloc_new]; rfl
  have p3 : (w.alloc (.cells #[.int .i64 2, .int .i64 ((0 : Nat) : Int), .int .i64 ((0 : Nat) : Int), .int .i64 (left : Int), .string B, .string L, .int .i64 ((0 : Nat) : Int), .int .i64 0] 32)).cell? ⟨w.heap.size, 3, none⟩ = some (.int .i64 (left : Int)) := by rw [World.cell?_alloc_new]; rfl
  have p4 : (w.alloc (.cells #[.int .i64 2, .int .i64 ((0 : Nat) : Int), .int .i64 ((0 : Nat) : Int), .int .i64 (left : Int), .string B, .string L, .int .i64 ((0 : Nat) : Int), .int .i64 0] 32)).cell? ⟨w.heap.size, 4, none⟩ = some (.string B) := by rw [World.cell?_alloc_new]; rfl
  have p5 : (w.alloc (.cells #[.int .i64 2, .int .i64 ((0 : Nat) : Int), .int .i64 ((0 : Nat) : Int), .int .i64 (left : Int), .string B, .string L, .int .i64 ((0 : Nat) : Int), .int .i64 0] 32)).cell? ⟨w.heap.size, 5, none⟩ = some (.string L) := by rw [World.cell?_alloc_new]; rfl
  have p6 : (w.alloc (.cells #[.int .i64 2, .int .i64 ((0 : Nat) : Int), .int .i64 ((0 : Nat) : Int), .int .i64 (left : Int), .string B, .string L, .int .i64 ((0 : Nat) : Int), .int .i64 0] 32)).cell? ⟨w.heap.size, 6, none⟩ = some (.int .i64 ((0 : Nat) : Int)) := by rw [World.cell?_alloc_new]; rfl
  have p7 : (w.alloc (.cells #[.int .i64 2, .int .i64 ((0 : Nat) : Int), .int .i64 ((0 : Nat) : Int), .int .i64 (left : Int), .string B, .string L, .int .i64 ((0 : Nat) : Int), .int .i64 0] 32)).cell? ⟨w.heap.size, 7, none⟩ = some (.int .i64 0) := by rw [World.cell?_alloc_new]; rfl
  go_enter Tryz.func141, Tryz.ntmps141
  go_wp2_with fail
  go_quiet (first | (go_at_call 162; exact Calls.quiet_of_same (CP.out _)))
  go_wp2_with fail
  (with_reducible refine (CA.out _).mono ?_); rintro e w1 ⟨rfl, g1⟩
  go_wp2_with fail
  go_ret
  exact ⟨rfl, (below_drewN g0.out _).trans (g1.mono g0.out.size)⟩
set_option maxRecDepth 100000 in
set_option maxHeartbeats 8000000 in
theorem formed3 (size dg left : Nat) (B L : ByteArray) (lines : Nat) (w : World) (hs : size < 16 ^ dg) (hd : dg ≤ 8) (hz : size = 0 ∧ dg = 0) (hl : left = 0) (hL : L.size = 0) (hn : lines = 0) 
    (hCA : ∀ w1 : World, Calls Tryz.prog 163 #[.string L, .string ⟨#[13, 10]⟩] w1 fun e w' => e = .returned (.bool false) ∧ Below w1.heap.size w1 w') : Calls Tryz.prog 141 #[.agg (ckA 3 size dg left B L lines 0)] w fun e w' => e = .returned (.bool true) ∧ Below w.heap.size w w' := by
  unfold ckA
  have CP := Lib.hid (fun w => pPowers dg hd w)
  have CA := Lib.hid hCA
  have hs2 : (size : Int) < ((16 ^ dg : Nat) : Int) := by omega
  have g0 := Lib.hid ((Below.refl w.heap.size w).alloc (Nat.le_refl _) (.cells #[.int .i64 3, .int .i64 (size : Int), .int .i64 (dg : Int), .int .i64 (left : Int), .string B, .string L, .int .i64 (lines : Int), .int .i64 0] 32))
  generalize ((16 ^ dg : Nat) : Int) = PW at *
  clear hCA

  obtain ⟨rfl, rfl⟩ := hz
  subst hl
  subst hn
  have hem : L.toList.isEmpty = true := emp_t' hL
  have hem2 : L.toList = [] := List.isEmpty_iff.1 hem
  have p0 : (w.alloc (.cells #[.int .i64 3, .int .i64 ((0 : Nat) : Int), .int .i64 ((0 : Nat) : Int), .int .i64 ((0 : Nat) : Int), .string B, .string L, .int .i64 ((0 : Nat) : Int), .int .i64 0] 32)).cell? ⟨w.heap.size, 0, none⟩ = some (.int .i64 3) := by rw [World.cell?_alloc_new]; rfl
  have p1 : (w.alloc (.cells #[.int .i64 3, .int .i64 ((0 : Nat) : Int), .int .i64 ((0 : Nat) : Int), .int .i64 ((0 : Nat) : Int), .string B, .string L, .int .i64 ((0 : Nat) : Int), .int .i64 0] 32)).cell? ⟨w.heap.size, 1, none⟩ = some (.int .i64 ((0 : Nat) : Int)) := by rw [World.cell?_alloc_new]; rfl
  have p2 : (w.alloc (.cells #[.int .i64 3, .int .i64 ((0 : Nat) : Int), .int .i64 ((0 : Nat) : Int), .int .i64 ((0 : Nat) : Int), .string B, .string L, .int .i64 ((0 : Nat) : Int), .int .i64 0] 32)).cell? ⟨w.heap.size, 2, none⟩ = some (.int .i64 ((0 : Nat) : Int)) := by rw [World.cell?_alloc_new]; rfl
  have p3 : (w.alloc (.cells #[.int .i64 3, .int .i64 ((0 : Nat) : Int), .int .i64 ((0 : Nat) : Int), .int .i64 ((0 : Nat) : Int), .string B, .string L, .int .i64 ((0 : Nat) : Int), .int .i64 0] 32)).cell? ⟨w.heap.size, 3, none⟩ = some (.int .i64 ((0 : Nat) : Int)) := by rw [World.cell?_alloc_new]; rfl
  have p4 : (w.alloc (.cells #[.int .i64 3, .int .i64 ((0 : Nat) : Int), .int .i64 ((0 : Nat) : Int), .int .i64 ((0 : Nat) : Int), .string B, .string L, .int .i64 ((0 : Nat) : Int), .int .i64 0] 32)).cell? ⟨w.heap.size, 4, none⟩ = some (.string B) := by rw [World.cell?_alloc_new]; rfl
  have p5 : (w.alloc (.cells #[.int .i64 3, .int .i64 ((0 : Nat) : Int), .int .i64 ((0 : Nat) : Int), .int .i64 ((0 : Nat) : Int), .string B, .string L, .int .i64 ((0 : Nat) : Int), .int .i64 0] 32)).cell? ⟨w.heap.size, 5, none⟩ = some (.string L) := by rw [World.cell?_alloc_new]; rfl
  have p6 : (w.alloc (.cells #[.int .i64 3, .int .i64 ((0 : Nat) : Int), .int .i64 ((0 : Nat) : Int), .int .i64 ((0 : Nat) : Int), .string B, .string L, .int .i64 ((0 : Nat) : Int), .int .i64 0] 32)).cell? ⟨w.heap.size, 6, none⟩ = some (.int .i64 ((0 : Nat) : Int)) := by rw [World.cell?_alloc_new]; rfl
  have p7 : (w.alloc (.cells #[.int .i64 3, .int .i64 ((0 : Nat) : Int), .int .i64 ((0 : Nat) : Int), .int .i64 ((0 : Nat) : Int), .string B, .string L, .int .i64 ((0 : Nat) : Int), .int .i64 0] 32)).cell? ⟨w.heap.size, 7, none⟩ = some (.int .i64 0) := by rw [World.cell?_alloc_new]; rfl
  go_enter Tryz.func141, Tryz.ntmps141
  go_wp2_with fail
  go_quiet (first | (go_at_call 162; exact Calls.quiet_of_same (CP.out _)))
  go_wp2_with fail
  (with_reducible refine (CA.out _).mono ?_); rintro e w1 ⟨rfl, g1⟩
  go_wp2_with fail
  go_ret
  exact ⟨rfl, (below_drewN g0.out _).trans (g1.mono g0.out.size)⟩
set_option maxRecDepth 100000 in
set_option maxHeartbeats 8000000 in
theorem formed4 (size dg left : Nat) (B L : ByteArray) (lines : Nat) (w : World) (hs : size < 16 ^ dg) (hd : dg ≤ 8) (hz : size = 0 ∧ dg = 0) (hl : left = 0) (hL : L.size = 0) (hn : lines = 0) 
    (hCA : ∀ w1 : World, Calls Tryz.prog 163 #[.string L, .string ⟨#[13, 10]⟩] w1 fun e w' => e = .returned (.bool false) ∧ Below w1.heap.size w1 w') : Calls Tryz.prog 141 #[.agg (ckA 4 size dg left B L lines 0)] w fun e w' => e = .returned (.bool true) ∧ Below w.heap.size w w' := by
  unfold ckA
  have CP := Lib.hid (fun w => pPowers dg hd w)
  have CA := Lib.hid hCA
  have hs2 : (size : Int) < ((16 ^ dg : Nat) : Int) := by omega
  have g0 := Lib.hid ((Below.refl w.heap.size w).alloc (Nat.le_refl _) (.cells #[.int .i64 4, .int .i64 (size : Int), .int .i64 (dg : Int), .int .i64 (left : Int), .string B, .string L, .int .i64 (lines : Int), .int .i64 0] 32))
  generalize ((16 ^ dg : Nat) : Int) = PW at *
  clear hCA

  obtain ⟨rfl, rfl⟩ := hz
  subst hl
  subst hn
  have hem : L.toList.isEmpty = true := emp_t' hL
  have hem2 : L.toList = [] := List.isEmpty_iff.1 hem
  have p0 : (w.alloc (.cells #[.int .i64 4, .int .i64 ((0 : Nat) : Int), .int .i64 ((0 : Nat) : Int), .int .i64 ((0 : Nat) : Int), .string B, .string L, .int .i64 ((0 : Nat) : Int), .int .i64 0] 32)).cell? ⟨w.heap.size, 0, none⟩ = some (.int .i64 4) := by rw [World.cell?_alloc_new]; rfl
  have p1 : (w.alloc (.cells #[.int .i64 4, .int .i64 ((0 : Nat) : Int), .int .i64 ((0 : Nat) : Int), .int .i64 ((0 : Nat) : Int), .string B, .string L, .int .i64 ((0 : Nat) : Int), .int .i64 0] 32)).cell? ⟨w.heap.size, 1, none⟩ = some (.int .i64 ((0 : Nat) : Int)) := by rw [World.cell?_alloc_new]; rfl
  have p2 : (w.alloc (.cells #[.int .i64 4, .int .i64 ((0 : Nat) : Int), .int .i64 ((0 : Nat) : Int), .int .i64 ((0 : Nat) : Int), .string B, .string L, .int .i64 ((0 : Nat) : Int), .int .i64 0] 32)).cell? ⟨w.heap.size, 2, none⟩ = some (.int .i64 ((0 : Nat) : Int)) := by rw [World.cell?_alloc_new]; rfl
  have p3 : (w.alloc (.cells #[.int .i64 4, .int .i64 ((0 : Nat) : Int), .int .i64 ((0 : Nat) : Int), .int .i64 ((0 : Nat) : Int), .string B, .string L, .int .i64 ((0 : Nat) : Int), .int .i64 0] 32)).cell? ⟨w.heap.size, 3, none⟩ = some (.int .i64 ((0 : Nat) : Int)) := by rw [World.cell?_alloc_new]; rfl
  have p4 : (w.alloc (.cells #[.int .i64 4, .int .i64 ((0 : Nat) : Int), .int .i64 ((0 : Nat) : Int), .int .i64 ((0 : Nat) : Int), .string B, .string L, .int .i64 ((0 : Nat) : Int), .int .i64 0] 32)).cell? ⟨w.heap.size, 4, none⟩ = some (.string B) := by rw [World.cell?_alloc_new]; rfl
  have p5 : (w.alloc (.cells #[.int .i64 4, .int .i64 ((0 : Nat) : Int), .int .i64 ((0 : Nat) : Int), .int .i64 ((0 : Nat) : Int), .string B, .string L, .int .i64 ((0 : Nat) : Int), .int .i64 0] 32)).cell? ⟨w.heap.size, 5, none⟩ = some (.string L) := by rw [World.cell?_alloc_new]; rfl
  have p6 : (w.alloc (.cells #[.int .i64 4, .int .i64 ((0 : Nat) : Int), .int .i64 ((0 : Nat) : Int), .int .i64 ((0 : Nat) : Int), .string B, .string L, .int .i64 ((0 : Nat) : Int), .int .i64 0] 32)).cell? ⟨w.heap.size, 6, none⟩ = some (.int .i64 ((0 : Nat) : Int)) := by rw [World.cell?_alloc_new]; rfl
  have p7 : (w.alloc (.cells #[.int .i64 4, .int .i64 ((0 : Nat) : Int), .int .i64 ((0 : Nat) : Int), .int .i64 ((0 : Nat) : Int), .string B, .string L, .int .i64 ((0 : Nat) : Int), .int .i64 0] 32)).cell? ⟨w.heap.size, 7, none⟩ = some (.int .i64 0) := by rw [World.cell?_alloc_new]; rfl
  go_enter Tryz.func141, Tryz.ntmps141
  go_wp2_with fail
  go_quiet (first | (go_at_call 162; exact Calls.quiet_of_same (CP.out _)))
  go_wp2_with fail
  (with_reducible refine (CA.out _).mono ?_); rintro e w1 ⟨rfl, g1⟩
  go_wp2_with fail
  go_ret
  exact ⟨rfl, (below_drewN g0.out _).trans (g1.mono g0.out.size)⟩
set_option maxRecDepth 100000 in
set_option maxHeartbeats 8000000 in
theorem formed5 (size dg left : Nat) (B L : ByteArray) (lines : Nat) (w : World) (hs : size < 16 ^ dg) (hd : dg ≤ 8) (hz : size = 0 ∧ dg = 0) (hl : left = 0) (hL : ¬ L.size = 0 → lines < 32) 
    (hCA : ∀ w1 : World, Calls Tryz.prog 163 #[.string L, .string ⟨#[13, 10]⟩] w1 fun e w' => e = .returned (.bool false) ∧ Below w1.heap.size w1 w') : Calls Tryz.prog 141 #[.agg (ckA 5 size dg left B L lines 0)] w fun e w' => e = .returned (.bool true) ∧ Below w.heap.size w w' := by
  unfold ckA
  have CP := Lib.hid (fun w => pPowers dg hd w)
  have CA := Lib.hid hCA
  have hs2 : (size : Int) < ((16 ^ dg : Nat) : Int) := by omega
  have g0 := Lib.hid ((Below.refl w.heap.size w).alloc (Nat.le_refl _) (.cells #[.int .i64 5, .int .i64 (size : Int), .int .i64 (dg : Int), .int .i64 (left : Int), .string B, .string L, .int .i64 (lines : Int), .int .i64 0] 32))
  generalize ((16 ^ dg : Nat) : Int) = PW at *
  clear hCA

  obtain ⟨rfl, rfl⟩ := hz
  subst hl
  by_cases h5 : L.size = 0
  · have hem : L.toList.isEmpty = true := emp_t' h5
    have hem2 : L.toList = [] := List.isEmpty_iff.1 hem
    have p0 : (w.alloc (.cells #[.int .i64 5, .int .i64 ((0 : Nat) : Int), .int .i64 ((0 : Nat) : Int), .int .i64 ((0 : Nat) : Int), .string B, .string L, .int .i64 (lines : Int), .int .i64 0] 32)).cell? ⟨w.heap.size, 0, none⟩ = some (.int .i64 5) := by rw [World.cell?_alloc_new]; rfl
    have p1 : (w.alloc (.cells #[.int .i64 5, .int .i64 ((0 : Nat) : Int), .int .i64 ((0 : Nat) : Int), .int .i64 ((0 : Nat) : Int), .string B, .string L, .int .i64 (lines : Int), .int .i64 0] 32)).cell? ⟨w.heap.size, 1, none⟩ = some (.int .i64 ((0 : Nat) : Int)) := by rw [World.cell?_alloc_new]; rfl
    have p2 : (w.alloc (.cells #[.int .i64 5, .int .i64 ((0 : Nat) : Int), .int .i64 ((0 : Nat) : Int), .int .i64 ((0 : Nat) : Int), .string B, .string L, .int .i64 (lines : Int), .int .i64 0] 32)).cell? ⟨w.heap.size, 2, none⟩ = some (.int .i64 ((0 : Nat) : Int)) := by rw [World.cell?_alloc_new]; rfl
    have p3 : (w.alloc (.cells #[.int .i64 5, .int .i64 ((0 : Nat) : Int), .int .i64 ((0 : Nat) : Int), .int .i64 ((0 : Nat) : Int), .string B, .string L, .int .i64 (lines : Int), .int .i64 0] 32)).cell? ⟨w.heap.size, 3, none⟩ = some (.int .i64 ((0 : Nat) : Int)) := by rw [World.cell?_alloc_new]; rfl
    have p4 : (w.alloc (.cells #[.int .i64 5, .int .i64 ((0 : Nat) : Int), .int .i64 ((0 : Nat) : Int), .int .i64 ((0 : Nat) : Int), .string B, .string L, .int .i64 (lines : Int), .int .i64 0] 32)).cell? ⟨w.heap.size, 4, none⟩ = some (.string B) := by rw [World.cell?_alloc_new]; rfl
    have p5 : (w.alloc (.cells #[.int .i64 5, .int .i64 ((0 : Nat) : Int), .int .i64 ((0 : Nat) : Int), .int .i64 ((0 : Nat) : Int), .string B, .string L, .int .i64 (lines : Int), .int .i64 0] 32)).cell? ⟨w.heap.size, 5, none⟩ = some (.string L) := by rw [World.cell?_alloc_new]; rfl
    have p6 : (w.alloc (.cells #[.int .i64 5, .int .i64 ((0 : Nat) : Int), .int .i64 ((0 : Nat) : Int), .int .i64 ((0 : Nat) : Int), .string B, .string L, .int .i64 (lines : Int), .int .i64 0] 32)).cell? ⟨w.heap.size, 6, none⟩ = some (.int .i64 (lines : Int)) := by rw [World.cell?_alloc_new]; rfl
    have p7 : (w.alloc (.cells #[.int .i64 5, .int .i64 ((0 : Nat) : Int), .int .i64 ((0 : Nat) : Int), .int .i64 ((0 : Nat) : Int), .string B, .string L, .int .i64 (lines : Int), .int .i64 0] 32)).cell? ⟨w.heap.size, 7, none⟩ = some (.int .i64 0) := by rw [World.cell?_alloc_new]; rfl
    go_enter Tryz.func141, Tryz.ntmps141
    go_wp2_with fail
    go_quiet (first | (go_at_call 162; exact Calls.quiet_of_same (CP.out _)))
    go_wp2_with fail
    (with_reducible refine (CA.out _).mono ?_); rintro e w1 ⟨rfl, g1⟩
    go_wp2_with fail
    go_ret
    exact ⟨rfl, (below_drewN g0.out _).trans (g1.mono g0.out.size)⟩
  · have hem : L.toList.isEmpty = false := emp_f' h5
    have hem2 : ¬ L.toList = [] := fun e => by rw [e] at hem; cases hem
    have hl3 : ((lines : Int) == 32) = false := by have := hL h5; rw [beq_eq_false_iff_ne]; omega
    have p0 : (w.alloc (.cells #[.int .i64 5, .int .i64 ((0 : Nat) : Int), .int .i64 ((0 : Nat) : Int), .int .i64 ((0 : Nat) : Int), .string B, .string L, .int .i64 (lines : Int), .int .i64 0] 32)).cell? ⟨w.heap.size, 0, none⟩ = some (.int .i64 5) := by rw [World.cell?_alloc_new]; rfl
    have p1 : (w.alloc (.cells #[.int .i64 5, .int .i64 ((0 : Nat) : Int), .int .i64 ((0 : Nat) : Int), .int .i64 ((0 : Nat) : Int), .string B, .string L, .int .i64 (lines : Int), .int .i64 0] 32)).cell? ⟨w.heap.size, 1, none⟩ = some (.int .i64 ((0 : Nat) : Int)) := by rw [World.cell?_alloc_new]; rfl
    have p2 : (w.alloc (.cells #[.int .i64 5, .int .i64 ((0 : Nat) : Int), .int .i64 ((0 : Nat) : Int), .int .i64 ((0 : Nat) : Int), .string B, .string L, .int .i64 (lines : Int), .int .i64 0] 32)).cell? ⟨w.heap.size, 2, none⟩ = some (.int .i64 ((0 : Nat) : Int)) := by rw [World.cell?_alloc_new]; rfl
    have p3 : (w.alloc (.cells #[.int .i64 5, .int .i64 ((0 : Nat) : Int), .int .i64 ((0 : Nat) : Int), .int .i64 ((0 : Nat) : Int), .string B, .string L, .int .i64 (lines : Int), .int .i64 0] 32)).cell? ⟨w.heap.size, 3, none⟩ = some (.int .i64 ((0 : Nat) : Int)) := by rw [World.cell?_alloc_new]; rfl
    have p4 : (w.alloc (.cells #[.int .i64 5, .int .i64 ((0 : Nat) : Int), .int .i64 ((0 : Nat) : Int), .int .i64 ((0 : Nat) : Int), .string B, .string L, .int .i64 (lines : Int), .int .i64 0] 32)).cell? ⟨w.heap.size, 4, none⟩ = some (.string B) := by rw [World.cell?_alloc_new]; rfl
    have p5 : (w.alloc (.cells #[.int .i64 5, .int .i64 ((0 : Nat) : Int), .int .i64 ((0 : Nat) : Int), .int .i64 ((0 : Nat) : Int), .string B, .string L, .int .i64 (lines : Int), .int .i64 0] 32)).cell? ⟨w.heap.size, 5, none⟩ = some (.string L) := by rw [World.cell?_alloc_new]; rfl
    have p6 : (w.alloc (.cells #[.int .i64 5, .int .i64 ((0 : Nat) : Int), .int .i64 ((0 : Nat) : Int), .int .i64 ((0 : Nat) : Int), .string B, .string L, .int .i64 (lines : Int), .int .i64 0] 32)).cell? ⟨w.heap.size, 6, none⟩ = some (.int .i64 (lines : Int)) := by rw [World.cell?_alloc_new]; rfl
    have p7 : (w.alloc (.cells #[.int .i64 5, .int .i64 ((0 : Nat) : Int), .int .i64 ((0 : Nat) : Int), .int .i64 ((0 : Nat) : Int), .string B, .string L, .int .i64 (lines : Int), .int .i64 0] 32)).cell? ⟨w.heap.size, 7, none⟩ = some (.int .i64 0) := by rw [World.cell?_alloc_new]; rfl
    go_enter Tryz.func141, Tryz.ntmps141
    go_wp2_with fail
    go_quiet (first | (go_at_call 162; exact Calls.quiet_of_same (CP.out _)))
    go_wp2_with fail
    (with_reducible refine (CA.out _).mono ?_); rintro e w1 ⟨rfl, g1⟩
    go_wp2_with fail
    go_ret
    exact ⟨rfl, (below_drewN g0.out _).trans (g1.mono g0.out.size)⟩
set_option maxRecDepth 100000 in
set_option maxHeartbeats 8000000 in
theorem formed6 (size dg left : Nat) (B L : ByteArray) (lines : Nat) (w : World) (hs : size < 16 ^ dg) (hd : dg ≤ 8) (hz : size = 0 ∧ dg = 0) (hl : left = 0) (hL : ¬ L.size = 0 → lines < 32) 
    (hCA : ∀ w1 : World, Calls Tryz.prog 163 #[.string L, .string ⟨#[13, 10]⟩] w1 fun e w' => e = .returned (.bool false) ∧ Below w1.heap.size w1 w') : Calls Tryz.prog 141 #[.agg (ckA 6 size dg left B L lines 0)] w fun e w' => e = .returned (.bool true) ∧ Below w.heap.size w w' := by
  unfold ckA
  have CP := Lib.hid (fun w => pPowers dg hd w)
  have CA := Lib.hid hCA
  have hs2 : (size : Int) < ((16 ^ dg : Nat) : Int) := by omega
  have g0 := Lib.hid ((Below.refl w.heap.size w).alloc (Nat.le_refl _) (.cells #[.int .i64 6, .int .i64 (size : Int), .int .i64 (dg : Int), .int .i64 (left : Int), .string B, .string L, .int .i64 (lines : Int), .int .i64 0] 32))
  generalize ((16 ^ dg : Nat) : Int) = PW at *
  clear hCA

  obtain ⟨rfl, rfl⟩ := hz
  subst hl
  by_cases h5 : L.size = 0
  · have hem : L.toList.isEmpty = true := emp_t' h5
    have hem2 : L.toList = [] := List.isEmpty_iff.1 hem
    have p0 : (w.alloc (.cells #[.int .i64 6, .int .i64 ((0 : Nat) : Int), .int .i64 ((0 : Nat) : Int), .int .i64 ((0 : Nat) : Int), .string B, .string L, .int .i64 (lines : Int), .int .i64 0] 32)).cell? ⟨w.heap.size, 0, none⟩ = some (.int .i64 6) := by rw [World.cell?_alloc_new]; rfl
    have p1 : (w.alloc (.cells #[.int .i64 6, .int .i64 ((0 : Nat) : Int), .int .i64 ((0 : Nat) : Int), .int .i64 ((0 : Nat) : Int), .string B, .string L, .int .i64 (lines : Int), .int .i64 0] 32)).cell? ⟨w.heap.size, 1, none⟩ = some (.int .i64 ((0 : Nat) : Int)) := by rw [World.cell?_alloc_new]; rfl
    have p2 : (w.alloc (.cells #[.int .i64 6, .int .i64 ((0 : Nat) : Int), .int .i64 ((0 : Nat) : Int), .int .i64 ((0 : Nat) : Int), .string B, .string L, .int .i64 (lines : Int), .int .i64 0] 32)).cell? ⟨w.heap.size, 2, none⟩ = some (.int .i64 ((0 : Nat) : Int)) := by rw [World.cell?_alloc_new]; rfl
    have p3 : (w.alloc (.cells #[.int .i64 6, .int .i64 ((0 : Nat) : Int), .int .i64 ((0 : Nat) : Int), .int .i64 ((0 : Nat) : Int), .string B, .string L, .int .i64 (lines : Int), .int .i64 0] 32)).cell? ⟨w.heap.size, 3, none⟩ = some (.int .i64 ((0 : Nat) : Int)) := by rw [World.cell?_alloc_new]; rfl
    have p4 : (w.alloc (.cells #[.int .i64 6, .int .i64 ((0 : Nat) : Int), .int .i64 ((0 : Nat) : Int), .int .i64 ((0 : Nat) : Int), .string B, .string L, .int .i64 (lines : Int), .int .i64 0] 32)).cell? ⟨w.heap.size, 4, none⟩ = some (.string B) := by rw [World.cell?_alloc_new]; rfl
    have p5 : (w.alloc (.cells #[.int .i64 6, .int .i64 ((0 : Nat) : Int), .int .i64 ((0 : Nat) : Int), .int .i64 ((0 : Nat) : Int), .string B, .string L, .int .i64 (lines : Int), .int .i64 0] 32)).cell? ⟨w.heap.size, 5, none⟩ = some (.string L) := by rw [World.cell?_alloc_new]; rfl
    have p6 : (w.alloc (.cells #[.int .i64 6, .int .i64 ((0 : Nat) : Int), .int .i64 ((0 : Nat) : Int), .int .i64 ((0 : Nat) : Int), .string B, .string L, .int .i64 (lines : Int), .int .i64 0] 32)).cell? ⟨w.heap.size, 6, none⟩ = some (.int .i64 (lines : Int)) := by rw [World.cell?_alloc_new]; rfl
    have p7 : (w.alloc (.cells #[.int .i64 6, .int .i64 ((0 : Nat) : Int), .int .i64 ((0 : Nat) : Int), .int .i64 ((0 : Nat) : Int), .string B, .string L, .int .i64 (lines : Int), .int .i64 0] 32)).cell? ⟨w.heap.size, 7, none⟩ = some (.int .i64 0) := by rw [World.cell?_alloc_new]; rfl
    go_enter Tryz.func141, Tryz.ntmps141
    go_wp2_with fail
    go_quiet (first | (go_at_call 162; exact Calls.quiet_of_same (CP.out _)))
    go_wp2_with fail
    (with_reducible refine (CA.out _).mono ?_); rintro e w1 ⟨rfl, g1⟩
    go_wp2_with fail
    go_ret
    exact ⟨rfl, (below_drewN g0.out _).trans (g1.mono g0.out.size)⟩
  · have hem : L.toList.isEmpty = false := emp_f' h5
    have hem2 : ¬ L.toList = [] := fun e => by rw [e] at hem; cases hem
    have hl3 : ((lines : Int) == 32) = false := by have := hL h5; rw [beq_eq_false_iff_ne]; omega
    have p0 : (w.alloc (.cells #[.int .i64 6, .int .i64 ((0 : Nat) : Int), .int .i64 ((0 : Nat) : Int), .int .i64 ((0 : Nat) : Int), .string B, .string L, .int .i64 (lines : Int), .int .i64 0] 32)).cell? ⟨w.heap.size, 0, none⟩ = some (.int .i64 6) := by rw [World.cell?_alloc_new]; rfl
    have p1 : (w.alloc (.cells #[.int .i64 6, .int .i64 ((0 : Nat) : Int), .int .i64 ((0 : Nat) : Int), .int .i64 ((0 : Nat) : Int), .string B, .string L, .int .i64 (lines : Int), .int .i64 0] 32)).cell? ⟨w.heap.size, 1, none⟩ = some (.int .i64 ((0 : Nat) : Int)) := by rw [World.cell?_alloc_new]; rfl
    have p2 : (w.alloc (.cells #[.int .i64 6, .int .i64 ((0 : Nat) : Int), .int .i64 ((0 : Nat) : Int), .int .i64 ((0 : Nat) : Int), .string B, .string L, .int .i64 (lines : Int), .int .i64 0] 32)).cell? ⟨w.heap.size, 2, none⟩ = some (.int .i64 ((0 : Nat) : Int)) := by rw [World.cell?_alloc_new]; rfl
    have p3 : (w.alloc (.cells #[.int .i64 6, .int .i64 ((0 : Nat) : Int), .int .i64 ((0 : Nat) : Int), .int .i64 ((0 : Nat) : Int), .string B, .string L, .int .i64 (lines : Int), .int .i64 0] 32)).cell? ⟨w.heap.size, 3, none⟩ = some (.int .i64 ((0 : Nat) : Int)) := by rw [World.cell?_alloc_new]; rfl
    have p4 : (w.alloc (.cells #[.int .i64 6, .int .i64 ((0 : Nat) : Int), .int .i64 ((0 : Nat) : Int), .int .i64 ((0 : Nat) : Int), .string B, .string L, .int .i64 (lines : Int), .int .i64 0] 32)).cell? ⟨w.heap.size, 4, none⟩ = some (.string B) := by rw [World.cell?_alloc_new]; rfl
    have p5 : (w.alloc (.cells #[.int .i64 6, .int .i64 ((0 : Nat) : Int), .int .i64 ((0 : Nat) : Int), .int .i64 ((0 : Nat) : Int), .string B, .string L, .int .i64 (lines : Int), .int .i64 0] 32)).cell? ⟨w.heap.size, 5, none⟩ = some (.string L) := by rw [World.cell?_alloc_new]; rfl
    have p6 : (w.alloc (.cells #[.int .i64 6, .int .i64 ((0 : Nat) : Int), .int .i64 ((0 : Nat) : Int), .int .i64 ((0 : Nat) : Int), .string B, .string L, .int .i64 (lines : Int), .int .i64 0] 32)).cell? ⟨w.heap.size, 6, none⟩ = some (.int .i64 (lines : Int)) := by rw [World.cell?_alloc_new]; rfl
    have p7 : (w.alloc (.cells #[.int .i64 6, .int .i64 ((0 : Nat) : Int), .int .i64 ((0 : Nat) : Int), .int .i64 ((0 : Nat) : Int), .string B, .string L, .int .i64 (lines : Int), .int .i64 0] 32)).cell? ⟨w.heap.size, 7, none⟩ = some (.int .i64 0) := by rw [World.cell?_alloc_new]; rfl
    go_enter Tryz.func141, Tryz.ntmps141
    go_wp2_with fail
    go_quiet (first | (go_at_call 162; exact Calls.quiet_of_same (CP.out _)))
    go_wp2_with fail
    (with_reducible refine (CA.out _).mono ?_); rintro e w1 ⟨rfl, g1⟩
    go_wp2_with fail
    go_ret
    exact ⟨rfl, (below_drewN g0.out _).trans (g1.mono g0.out.size)⟩
set_option maxRecDepth 100000 in
set_option maxHeartbeats 8000000 in
theorem formed7 (size dg left : Nat) (B L : ByteArray) (lines : Nat) (w : World) (hs : size < 16 ^ dg) (hd : dg ≤ 8) (hz : size = 0 ∧ dg = 0) (hl : left = 0) (hL : L.size = 0) 
    (hCA : ∀ w1 : World, Calls Tryz.prog 163 #[.string L, .string ⟨#[13, 10]⟩] w1 fun e w' => e = .returned (.bool false) ∧ Below w1.heap.size w1 w') : Calls Tryz.prog 141 #[.agg (ckA 7 size dg left B L lines 0)] w fun e w' => e = .returned (.bool true) ∧ Below w.heap.size w w' := by
  unfold ckA
  have CP := Lib.hid (fun w => pPowers dg hd w)
  have CA := Lib.hid hCA
  have hs2 : (size : Int) < ((16 ^ dg : Nat) : Int) := by omega
  have g0 := Lib.hid ((Below.refl w.heap.size w).alloc (Nat.le_refl _) (.cells #[.int .i64 7, .int .i64 (size : Int), .int .i64 (dg : Int), .int .i64 (left : Int), .string B, .string L, .int .i64 (lines : Int), .int .i64 0] 32))
  generalize ((16 ^ dg : Nat) : Int) = PW at *
  clear hCA

  obtain ⟨rfl, rfl⟩ := hz
  subst hl
  have hem : L.toList.isEmpty = true := emp_t' hL
  have hem2 : L.toList = [] := List.isEmpty_iff.1 hem
  have p0 : (w.alloc (.cells #[.int .i64 7, .int .i64 ((0 : Nat) : Int), .int .i64 ((0 : Nat) : Int), .int .i64 ((0 : Nat) : Int), .string B, .string L, .int .i64 (lines : Int), .int .i64 0] 32)).cell? ⟨w.heap.size, 0, none⟩ = some (.int .i64 7) := by rw [World.cell?_alloc_new]; rfl
  have p1 : (w.alloc (.cells #[.int .i64 7, .int .i64 ((0 : Nat) : Int), .int .i64 ((0 : Nat) : Int), .int .i64 ((0 : Nat) : Int), .string B, .string L, .int .i64 (lines : Int), .int .i64 0] 32)).cell? ⟨w.heap.size, 1, none⟩ = some (.int .i64 ((0 : Nat) : Int)) := by rw [World.cell?_alloc_new]; rfl
  have p2 : (w.alloc (.cells #[.int .i64 7, .int .i64 ((0 : Nat) : Int), .int .i64 ((0 : Nat) : Int), .int .i64 ((0 : Nat) : Int), .string B, .string L, .int .i64 (lines : Int), .int .i64 0] 32)).cell? ⟨w.heap.size, 2, none⟩ = some (.int .i64 ((0 : Nat) : Int)) := by rw [World.cell?_alloc_new]; rfl
  have p3 : (w.alloc (.cells #[.int .i64 7, .int .i64 ((0 : Nat) : Int), .int .i64 ((0 : Nat) : Int), .int .i64 ((0 : Nat) : Int), .string B, .string L, .int .i64 (lines : Int), .int .i64 0] 32)).cell? ⟨w.heap.size, 3, none⟩ = some (.int .i64 ((0 : Nat) : Int)) := by rw [World.cell?_alloc_new]; rfl
  have p4 : (w.alloc (.cells #[.int .i64 7, .int .i64 ((0 : Nat) : Int), .int .i64 ((0 : Nat) : Int), .int .i64 ((0 : Nat) : Int), .string B, .string L, .int .i64 (lines : Int), .int .i64 0] 32)).cell? ⟨w.heap.size, 4, none⟩ = some (.string B) := by rw [World.cell?_alloc_new]; rfl
  have p5 : (w.alloc (.cells #[.int .i64 7, .int .i64 ((0 : Nat) : Int), .int .i64 ((0 : Nat) : Int), .int .i64 ((0 : Nat) : Int), .string B, .string L, .int .i64 (lines : Int), .int .i64 0] 32)).cell? ⟨w.heap.size, 5, none⟩ = some (.string L) := by rw [World.cell?_alloc_new]; rfl
  have p6 : (w.alloc (.cells #[.int .i64 7, .int .i64 ((0 : Nat) : Int), .int .i64 ((0 : Nat) : Int), .int .i64 ((0 : Nat) : Int), .string B, .string L, .int .i64 (lines : Int), .int .i64 0] 32)).cell? ⟨w.heap.size, 6, none⟩ = some (.int .i64 (lines : Int)) := by rw [World.cell?_alloc_new]; rfl
  have p7 : (w.alloc (.cells #[.int .i64 7, .int .i64 ((0 : Nat) : Int), .int .i64 ((0 : Nat) : Int), .int .i64 ((0 : Nat) : Int), .string B, .string L, .int .i64 (lines : Int), .int .i64 0] 32)).cell? ⟨w.heap.size, 7, none⟩ = some (.int .i64 0) := by rw [World.cell?_alloc_new]; rfl
  go_enter Tryz.func141, Tryz.ntmps141
  go_wp2_with fail
  go_quiet (first | (go_at_call 162; exact Calls.quiet_of_same (CP.out _)))
  go_wp2_with fail
  (with_reducible refine (CA.out _).mono ?_); rintro e w1 ⟨rfl, g1⟩
  go_wp2_with fail
  go_ret
  exact ⟨rfl, (below_drewN g0.out _).trans (g1.mono g0.out.size)⟩
set_option maxRecDepth 100000 in
set_option maxHeartbeats 8000000 in
theorem formed8 (size dg left status : Nat) (B L : ByteArray) (lines : Nat) (w : World) (hs : size < 16 ^ dg) (hd : dg ≤ 8) (hz : size = 0 ∧ dg = 0) (hl : left = 0) (hL : L.size = 0) (hn : lines = 0) (ht : status = 400 ∨ status = 413 ∨ status = 431) 
    (hCA : ∀ w1 : World, Calls Tryz.prog 163 #[.string L, .string ⟨#[13, 10]⟩] w1 fun e w' => e = .returned (.bool false) ∧ Below w1.heap.size w1 w') : Calls Tryz.prog 141 #[.agg (ckA 8 size dg left B L lines status)] w fun e w' => e = .returned (.bool true) ∧ Below w.heap.size w w' := by
  unfold ckA
  have CP := Lib.hid (fun w => pPowers dg hd w)
  have CA := Lib.hid hCA
  have hs2 : (size : Int) < ((16 ^ dg : Nat) : Int) := by omega
  have g0 := Lib.hid ((Below.refl w.heap.size w).alloc (Nat.le_refl _) (.cells #[.int .i64 8, .int .i64 (size : Int), .int .i64 (dg : Int), .int .i64 (left : Int), .string B, .string L, .int .i64 (lines : Int), .int .i64 (status : Int)] 32))
  generalize ((16 ^ dg : Nat) : Int) = PW at *
  clear hCA

  obtain ⟨sx, hsx⟩ : ∃ sx : Int, (status : Int) = sx := ⟨_, rfl⟩
  have ht1 : (sx != 0) = true := by rw [bne_iff_ne]; omega
  rw [hsx] at g0 ⊢
  obtain ⟨rfl, rfl⟩ := hz
  subst hl
  subst hn
  have hem : L.toList.isEmpty = true := emp_t' hL
  have hem2 : L.toList = [] := List.isEmpty_iff.1 hem
  have p0 : (w.alloc (.cells #[.int .i64 8, .int .i64 ((0 : Nat) : Int), .int .i64 ((0 : Nat) : Int), .int .i64 ((0 : Nat) : Int), .string B, .string L, .int .i64 ((0 : Nat) : Int), .int .i64 sx] 32)).cell? ⟨w.heap.size, 0, none⟩ = some (.int .i64 8) := by rw [World.cell?_alloc_new]; rfl
  have p1 : (w.alloc (.cells #[.int .i64 8, .int .i64 ((0 : Nat) : Int), .int .i64 ((0 : Nat) : Int), .int .i64 ((0 : Nat) : Int), .string B, .string L, .int .i64 ((0 : Nat) : Int), .int .i64 sx] 32)).cell? ⟨w.heap.size, 1, none⟩ = some (.int .i64 ((0 : Nat) : Int)) := by rw [World.cell?_alloc_new]; rfl
  have p2 : (w.alloc (.cells #[.int .i64 8, .int .i64 ((0 : Nat) : Int), .int .i64 ((0 : Nat) : Int), .int .i64 ((0 : Nat) : Int), .string B, .string L, .int .i64 ((0 : Nat) : Int), .int .i64 sx] 32)).cell? ⟨w.heap.size, 2, none⟩ = some (.int .i64 ((0 : Nat) : Int)) := by rw [World.cell?_alloc_new]; rfl
  have p3 : (w.alloc (.cells #[.int .i64 8, .int .i64 ((0 : Nat) : Int), .int .i64 ((0 : Nat) : Int), .int .i64 ((0 : Nat) : Int), .string B, .string L, .int .i64 ((0 : Nat) : Int), .int .i64 sx] 32)).cell? ⟨w.heap.size, 3, none⟩ = some (.int .i64 ((0 : Nat) : Int)) := by rw [World.cell?_alloc_new]; rfl
  have p4 : (w.alloc (.cells #[.int .i64 8, .int .i64 ((0 : Nat) : Int), .int .i64 ((0 : Nat) : Int), .int .i64 ((0 : Nat) : Int), .string B, .string L, .int .i64 ((0 : Nat) : Int), .int .i64 sx] 32)).cell? ⟨w.heap.size, 4, none⟩ = some (.string B) := by rw [World.cell?_alloc_new]; rfl
  have p5 : (w.alloc (.cells #[.int .i64 8, .int .i64 ((0 : Nat) : Int), .int .i64 ((0 : Nat) : Int), .int .i64 ((0 : Nat) : Int), .string B, .string L, .int .i64 ((0 : Nat) : Int), .int .i64 sx] 32)).cell? ⟨w.heap.size, 5, none⟩ = some (.string L) := by rw [World.cell?_alloc_new]; rfl
  have p6 : (w.alloc (.cells #[.int .i64 8, .int .i64 ((0 : Nat) : Int), .int .i64 ((0 : Nat) : Int), .int .i64 ((0 : Nat) : Int), .string B, .string L, .int .i64 ((0 : Nat) : Int), .int .i64 sx] 32)).cell? ⟨w.heap.size, 6, none⟩ = some (.int .i64 ((0 : Nat) : Int)) := by rw [World.cell?_alloc_new]; rfl
  have p7 : (w.alloc (.cells #[.int .i64 8, .int .i64 ((0 : Nat) : Int), .int .i64 ((0 : Nat) : Int), .int .i64 ((0 : Nat) : Int), .string B, .string L, .int .i64 ((0 : Nat) : Int), .int .i64 sx] 32)).cell? ⟨w.heap.size, 7, none⟩ = some (.int .i64 sx) := by rw [World.cell?_alloc_new]; rfl
  go_enter Tryz.func141, Tryz.ntmps141
  go_wp2_with fail
  go_quiet (first | (go_at_call 162; exact Calls.quiet_of_same (CP.out _)))
  go_wp2_with fail
  (with_reducible refine (CA.out _).mono ?_); rintro e w1 ⟨rfl, g1⟩
  go_wp2_with fail
  go_ret
  exact ⟨rfl, (below_drewN g0.out _).trans (g1.mono g0.out.size)⟩
end

section
open Go.RowKit

/-- a decoder's cells -/
def ckV (c : Ck) : Array Value := ckA c.st c.size c.digits c.left (bs c.body) (bs c.line) c.lines c.status
/-- that strings.ContainsAny finds no CR and no LF in a line -/
def CleanCA (L : ByteArray) : Prop := ∀ w1 : World, Calls Tryz.prog 163 #[.string L, .string ⟨#[13, 10]⟩] w1 fun e w' => e = .returned (.bool false) ∧ Below w1.heap.size w1 w'
theorem indexAny_clean (l : List UInt8) (hc : ∀ b ∈ l, b ≠ 13 ∧ b ≠ 10) : Lib.indexAny l [13, 10] = -1 := by
  induction l with
  | nil => rfl
  | cons b l ih =>
    obtain ⟨h1, h2⟩ := hc b (by simp)
    have e : ([13, 10] : List UInt8).contains b = false := by simp [h1, h2]
    unfold Lib.indexAny
    rw [e, ih (fun y hy => hc y (List.mem_cons_of_mem _ hy))]
    rfl
theorem cleanCA_ascii (l : List UInt8) (hl : l.length ≤ 1000) (ha : ∀ b ∈ l, b.toNat < 128) (hc : ∀ b ∈ l, b ≠ 13 ∧ b ≠ 10) : CleanCA (bs l) := by
  intro w1
  have h := Tryz.strings_ContainsAny_laid (bs l) ⟨#[13, 10]⟩ w1 (by rw [bs_size]; omega) (by show 2 < _; omega) (fun j b hj => ha b (List.mem_of_getElem? hj)) (fun j b hj => by
    have hj' : ([13, 10] : List UInt8)[j]? = some b := hj
    have := List.mem_of_getElem? hj'
    simp only [List.mem_cons, List.not_mem_nil, or_false] at this
    rcases this with rfl | rfl <;> decide)
  refine h.mono fun e w' ⟨he, hb⟩ => ⟨?_, hb⟩
  rw [he]
  congr 2
  show Lib.containsAny l [13, 10] = false
  unfold Lib.containsAny
  rw [indexAny_clean l hc]
  rfl
theorem pFormed {c : Ck} (hc : OkC c) (hCA : CleanCA (bs c.line)) (w : World) : Calls Tryz.prog 141 #[.agg (ckV c)] w fun e w' => e = .returned (.bool true) ∧ Below w.heap.size w w' := by
  obtain ⟨h1, h2, h3, h4, h5, h6, h7, h8, h9, h10, h11, h12, h13, h14, h15⟩ := hc
  obtain ⟨st, size, digits, left, body, line, lines, status⟩ := c
  simp only [ckV] at *
  have hL0 : line = [] → (bs line).size = 0 := fun e => by rw [e]; rfl
  have hL1 : ¬ (bs line).size = 0 → lines < 32 := fun h => h14 (fun e => h (hL0 e))
  obtain rfl | rfl | rfl | rfl | rfl | rfl | rfl | rfl | rfl : st = 0 ∨ st = 1 ∨ st = 2 ∨ st = 3 ∨ st = 4 ∨ st = 5 ∨ st = 6 ∨ st = 7 ∨ st = 8 := by omega
  · obtain rfl : status = 0 := by omega
    exact formed0 size digits left (bs body) (bs line) lines w h3 h4 (by omega) (hL0 (by simpa using h7)) (by omega) hCA
  · obtain rfl : status = 0 := by omega
    exact formed1 size digits left (bs body) (bs line) lines w h3 h4 (by omega) (by omega) (hL0 (by simpa using h7)) (by omega) hCA
  · obtain rfl : status = 0 := by omega
    exact formed2 size digits left (bs body) (bs line) lines w h3 h4 (by omega) (by omega) (hL0 (by simpa using h7)) (by omega) hCA
  · obtain rfl : status = 0 := by omega
    exact formed3 size digits left (bs body) (bs line) lines w h3 h4 (by omega) (by omega) (hL0 (by simpa using h7)) (by omega) hCA
  · obtain rfl : status = 0 := by omega
    exact formed4 size digits left (bs body) (bs line) lines w h3 h4 (by omega) (by omega) (hL0 (by simpa using h7)) (by omega) hCA
  · obtain rfl : status = 0 := by omega
    exact formed5 size digits left (bs body) (bs line) lines w h3 h4 (by omega) (by omega) hL1 hCA
  · obtain rfl : status = 0 := by omega
    exact formed6 size digits left (bs body) (bs line) lines w h3 h4 (by omega) (by omega) hL1 hCA
  · obtain rfl : status = 0 := by omega
    exact formed7 size digits left (bs body) (bs line) lines w h3 h4 (by omega) (by omega) (hL0 (by simpa using h7)) hCA
  · exact formed8 size digits left status (bs body) (bs line) lines w h3 h4 (by omega) (by omega) (hL0 (by simpa using h7)) (by omega) (by omega) hCA
set_option maxRecDepth 100000 in
set_option maxHeartbeats 8000000 in
theorem pCheck {c : Ck} (hc : OkC c) (hCA : CleanCA (bs c.line)) (w : World) : Calls Tryz.prog 108 #[.agg (ckV c)] w fun e w' => e = .returned (.int .i64 0) ∧ Below w.heap.size w w' := by
  have CF := Lib.hid (fun w => pFormed hc hCA w)
  have g0 := Lib.hid ((Below.refl w.heap.size w).alloc (Nat.le_refl _) (.cells (ckV c) 32))
  have hsz : c.size < 4294967296 := by
    have h1 := hc.size
    have h2 : 16 ^ c.digits ≤ 16 ^ 8 := Nat.pow_le_pow_right (by omega) hc.digits
    omega
  obtain ⟨h1, h2, h3, h4, h5, h6, h7, h8, h9, h10, h11, h12, h13, h14, h15⟩ := hc
  have k1 : (0 : Int) ≤ (c.st : Int) := by omega
  have k2 : (c.st : Int) ≤ 8 := by omega
  have k3 : (0 : Int) ≤ (c.size : Int) := by omega
  have k4 : (c.size : Int) < 4294967296 := by omega
  have k5 : (0 : Int) ≤ (c.digits : Int) := by omega
  have k6 : (c.digits : Int) ≤ 8 := by omega
  have k7 : (0 : Int) ≤ (c.left : Int) := by omega
  have k8 : (c.left : Int) ≤ 2048 := by omega
  have k9 : (0 : Int) ≤ (c.lines : Int) := by omega
  have k10 : (c.lines : Int) ≤ 32 := by omega
  have k11 : ((bs c.body).size : Int) + (c.left : Int) ≤ 2048 := by rw [bs_size]; omega
  have k12 : ((bs c.line).size : Int) ≤ 512 := by rw [bs_size]; omega
  simp only [ckV, ckA] at CF g0 ⊢
  clear h1 h2 h3 h4 h5 h6 h7 h8 h9 h11 h12 h13 h14 h15 hsz
  obtain ⟨sx, hsx⟩ : ∃ sx : Int, (c.status : Int) = sx := ⟨_, rfl⟩
  have h10 : sx = 0 ∨ sx = 400 ∨ sx = 413 ∨ sx = 431 := by omega
  rw [hsx] at CF g0 ⊢
  clear hsx hCA
  generalize (c.st : Int) = x0 at *
  generalize (c.size : Int) = x1 at *
  generalize (c.digits : Int) = x2 at *
  generalize (c.left : Int) = x3 at *
  generalize (c.lines : Int) = x6 at *
  generalize bs c.body = x4 at *
  generalize bs c.line = x5 at *
  rcases h10 with rfl | rfl | rfl | rfl
  all_goals (
    go_enter Tryz.func108, Tryz.ntmps108
    go_wp2_with fail
    (with_reducible refine (CF.out _).mono ?_); rintro e w1 ⟨rfl, g1⟩
    go_wp2_with fail
    go_ret
    exact ⟨rfl, g0.out.trans (g1.mono g0.out.size)⟩)
end

section
open Go.RowKit

theorem validRune_any (r : Int) (w : World) (h0 : 0 ≤ r) : Calls Tryz.prog 195 #[.int .i32 r] w fun e w' => e = .returned (.bool (validRune r)) ∧ w' = w := by
  by_cases h1 : r < 55296
  · rw [show validRune r = true from decide_eq_true (.inl ⟨h0, h1⟩)]
    have d0 : decide ((0 : Int) ≤ r) = true := by simpa using h0
    have d1 : decide (r < 55296) = true := by simpa using h1
    go_enter Tryz.func195, Tryz.ntmps195
    go_wp2_with fail
    go_ret
    exact ⟨rfl, rfl⟩
  · have d0 : decide ((0 : Int) ≤ r) = true := by simpa using h0
    have d1 : decide (r < 55296) = false := by simpa using h1
    by_cases h2 : 57343 < r
    · have d2 : decide ((57343 : Int) < r) = true := by simpa using h2
      by_cases h3 : r ≤ 1114111
      · rw [show validRune r = true from decide_eq_true (.inr ⟨h2, h3⟩)]
        have d3 : decide (r ≤ 1114111) = true := by simpa using h3
        go_enter Tryz.func195, Tryz.ntmps195
        go_wp2_with fail
        go_ret
        exact ⟨rfl, rfl⟩
      · rw [show validRune r = false from decide_eq_false (by omega)]
        have d3 : decide (r ≤ 1114111) = false := by simpa using h3
        go_enter Tryz.func195, Tryz.ntmps195
        go_wp2_with fail
        go_ret
        exact ⟨rfl, rfl⟩
    · rw [show validRune r = false from decide_eq_false (by omega)]
      have d2 : decide ((57343 : Int) < r) = false := by simpa using h2
      go_enter Tryz.func195, Tryz.ntmps195
      go_wp2_with fail
      go_ret
      exact ⟨rfl, rfl⟩
theorem indexByteNone (w : World) (b : UInt8) : Calls Tryz.prog 194 #[.string ByteArray.empty, .int .u8 (b.toNat : Int)] w fun e w' => e = .returned (.int .i64 (-1)) ∧ w' = w := by
  have h := Any.strings_IndexByte { Tryz.lays150 with } ByteArray.empty (b.toNat : Int) w
  exact h
set_option maxRecDepth 100000 in
set_option maxHeartbeats 8000000 in
theorem ixRune (r : Int) (h0 : 128 ≤ r) (h1 : r ≤ 2147483647) (w : World) : Calls Tryz.prog 181 #[.string ⟨#[13, 10]⟩, .int .i32 r] w fun e w' => e = .returned (.int .i64 (-1)) ∧ Below w.heap.size w w' := by
  have d0 : decide ((0 : Int) ≤ r) = true := by simp; omega
  have d1 : decide (r < 128) = false := by simp; omega
  by_cases hE : r = 65533
  · subst hE
    go_enter Tryz.func181, Tryz.ntmps181
    go_wp2_with fail
    go_loopw [5, 6] (fun _ _ wx => ∃ i : Nat, i ≤ 2 ∧ wx.heap[w.heap.size]? = some (.stringIter ⟨#[13, 10]⟩ i) ∧ Below w.heap.size w wx) (fun _ _ wx => 2 - wx.iterPos w.heap.size)
    case atStart => exact ⟨0, by omega, World.iter_heap w _ 0, (Below.refl _ w).alloc (Nat.le_refl _) _⟩
    case round =>
      obtain ⟨i, hi, hit, hbw⟩ := hrel
      rename World => wx
      have hsz : w.heap.size < wx.heap.size := (Array.getElem?_eq_some_iff.1 hit).1
      have hpos : wx.iterPos w.heap.size = i := by simp [World.iterPos, hit]
      have hc : i = 0 ∨ i = 1 ∨ i = 2 := by omega
      have e13 : ((13 : Int) == 65533) = false := rfl
      have e10 : ((10 : Int) == 65533) = false := rfl
      rcases hc with rfl | rfl | rfl
      · have hnx : ∀ ty, (Instr.next (.pointer (some ⟨w.heap.size, 0, none⟩)) true ty).run Tryz.prog wx = .ok (.tuple #[.bool true, .int .i64 0, .int .i32 13]) (wx.iterAt w.heap.size ⟨#[13, 10]⟩ 1) := fun ty => Lib.run_next_ascii_at wx w.heap.size ⟨#[13, 10]⟩ 0 ty hit (by decide) (by decide)
        have hit2 := Lib.iterAt_heap wx w.heap.size ⟨#[13, 10]⟩ 0 1 hit
        have hbw2 := Lib.below_iterAt hbw (k := w.heap.size) (Nat.le_refl _) ⟨#[13, 10]⟩ 1
        have hp2 : (wx.iterAt w.heap.size ⟨#[13, 10]⟩ 1).iterPos w.heap.size = 1 := by simp [World.iterPos, hit2]
        obtain ⟨W, hW⟩ : ∃ W, wx.iterAt w.heap.size ⟨#[13, 10]⟩ 1 = W := ⟨_, rfl⟩
        rw [hW] at hnx hit2 hbw2 hp2
        have HI := Lib.hid (And.intro hit2 (And.intro hbw2 (And.intro hp2 hpos)))
        clear hit2 hbw2 hit hbw hW hp2 hpos
        go_wp2_with fail
        obtain ⟨i1, i2, i3, i4⟩ := HI.out
        exact ⟨⟨1, by omega, i1, i2⟩, by rw [i3, i4]; omega⟩
      · have hnx : ∀ ty, (Instr.next (.pointer (some ⟨w.heap.size, 0, none⟩)) true ty).run Tryz.prog wx = .ok (.tuple #[.bool true, .int .i64 1, .int .i32 10]) (wx.iterAt w.heap.size ⟨#[13, 10]⟩ 2) := fun ty => Lib.run_next_ascii_at wx w.heap.size ⟨#[13, 10]⟩ 1 ty hit (by decide) (by decide)
        have hit2 := Lib.iterAt_heap wx w.heap.size ⟨#[13, 10]⟩ 1 2 hit
        have hbw2 := Lib.below_iterAt hbw (k := w.heap.size) (Nat.le_refl _) ⟨#[13, 10]⟩ 2
        have hp2 : (wx.iterAt w.heap.size ⟨#[13, 10]⟩ 2).iterPos w.heap.size = 2 := by simp [World.iterPos, hit2]
        obtain ⟨W, hW⟩ : ∃ W, wx.iterAt w.heap.size ⟨#[13, 10]⟩ 2 = W := ⟨_, rfl⟩
        rw [hW] at hnx hit2 hbw2 hp2
        have HI := Lib.hid (And.intro hit2 (And.intro hbw2 (And.intro hp2 hpos)))
        clear hit2 hbw2 hit hbw hW hp2 hpos
        go_wp2_with fail
        obtain ⟨i1, i2, i3, i4⟩ := HI.out
        exact ⟨⟨2, by omega, i1, i2⟩, by rw [i3, i4]; omega⟩
      · have hnx : ∀ ty, (Instr.next (.pointer (some ⟨w.heap.size, 0, none⟩)) true ty).run Tryz.prog wx = .ok (.tuple #[.bool false]) wx := fun ty => Lib.run_next_end_at wx w.heap.size ⟨#[13, 10]⟩ 2 ty hit (by decide)
        have HI := Lib.hid hbw
        clear hit hbw hpos
        go_wp2_with fail
        go_ret
        exact ⟨rfl, HI.out⟩
  · have e1 : (r == 65533) = false := by simpa using hE
    have CV := Lib.hid (fun w => validRune_any r w (by omega))
    cases hv : validRune r with
    | false =>
      rw [hv] at CV
      go_enter Tryz.func181, Tryz.ntmps181
      go_wp2_with fail
      (with_reducible refine (CV.out _).mono ?_); rintro e w' ⟨rfl, rfl⟩
      go_wp2_with fail
      go_ret
      exact ⟨rfl, Below.refl _ _⟩
    | true =>
      rw [hv] at CV
      have hf := encode_facts r (by rw [validRune_eq]; exact hv) h0
      obtain ⟨R, hR⟩ : ∃ R, Utf8.encode r = R := ⟨_, rfl⟩
      rw [hR] at hf
      obtain ⟨f1, f2, f3⟩ := hf
      have f3 := f3 (by omega)
      go_enter Tryz.func181, Tryz.ntmps181
      go_wp2_with fail
      (with_reducible refine (CV.out _).mono ?_); rintro e w' ⟨rfl, rfl⟩
      go_wp2_with fail
      have w1' : IntKind.i64.wrap ((R.size : Int) - 1) = ((R.size - 1 : Nat) : Int) := by rw [IntKind.wrap_i64]; omega
      have w2' : (R.size : Int) - 1 = ((R.size - 1 : Nat) : Int) := by omega
      go_step3
      go_wp2_with fail
      rename World => w0
      go_loopw [9] (fun i wx => i = .int .i64 ((R.size - 1 : Nat) : Int) ∧ wx = w0) (fun _ _ => 0)
      case atStart => exact ⟨rfl, rfl⟩
      case round =>
        obtain ⟨rfl, rfl⟩ := hrel
        rename World => w0
        by_cases h2 : R.size = 2
        · have e7 : R.size - 1 = 1 := by omega
          have hlt : 1 < R.size := by omega
          obtain ⟨y, hy⟩ : ∃ y, R[1] = y := ⟨_, rfl⟩
          have hy128 : 128 ≤ y.toNat := by
            have f4 : R[R.size - 1]'(by omega) = y := by rw [← hy]; congr 1
            rw [← f4]; exact f3
          have h10 : ((⟨#[13, 10]⟩ : ByteArray)[1]'(by decide)).toNat = 10 := rfl
          have hne : ((10 : Int) != (y.toNat : Int)) = true := by rw [bne_iff_ne]; omega
          have hne2 : ((((⟨#[13, 10]⟩ : ByteArray)[1]'(by decide)).toNat : Int) != (y.toNat : Int)) = true := by rw [h10]; exact hne
          have hex : (⟨#[13, 10]⟩ : ByteArray).extract 2 2 = ⟨#[]⟩ := rfl
          have CI := Lib.hid (fun w => indexByteNone w y)
          rw [e7, show ((1 : Nat) : Int) = 1 from rfl]
          clear f1 f2 f3 w1' w2' hR e7
          go_wp2_with fail
          go_step3
          go_wp2_with fail
          go_quiet (fail)
          go_wp2_with fail
          go_region_with (first
            | (go_at_call 194; (with_reducible refine (CI.out _).mono ?_); rintro e w' ⟨rfl, hww⟩))
          all_goals go_wp2_with fail
          all_goals rw [Exit.noGoto_ret]
          all_goals go_wp2_with fail
          all_goals rw [Exit.noGoto_ret]
          all_goals go_ret
          all_goals exact ⟨rfl, below_drewN (Below.refl _ _) _⟩
        · have e7 : decide (((R.size - 1 : Nat) : Int) < 2) = false := by simp; omega
          go_wp2_with fail
          rw [Exit.noGoto_ret]
          go_ret
          exact ⟨rfl, Below.refl _ _⟩
theorem ixAscii (r : Nat) (h1 : r < 128) (h13 : r ≠ 13) (h10 : r ≠ 10) (w : World) : Calls Tryz.prog 181 #[.string ⟨#[13, 10]⟩, .int .i32 (r : Int)] w fun e w' => e = .returned (.int .i64 (-1)) ∧ Below w.heap.size w w' := by
  have h := Any.strings_IndexRune_ascii { Tryz.lays150 with } ⟨#[13, 10]⟩ (r : Int) w (by omega) (by omega)
  refine h.mono fun e w' ⟨he, hw⟩ => ⟨?_, by rw [hw]; exact Below.refl _ _⟩
  rw [he]
  have e : Lib.indexByte [13, 10] ((r : Int)).toNat.toUInt8 = -1 := by
    have a1 : ¬ (13 : UInt8) = ((r : Int)).toNat.toUInt8 := fun e => by
      have := congrArg UInt8.toNat e
      simp at this; omega
    have a2 : ¬ (10 : UInt8) = ((r : Int)).toNat.toUInt8 := fun e => by
      have := congrArg UInt8.toNat e
      simp at this; omega
    generalize ((r : Int)).toNat.toUInt8 = x at a1 a2
    simp [Lib.indexByte, a1, a2]
  exact congrArg (fun z => Ending.returned (.int .i64 z)) e
/-- at every place of a line without CR and LF the rune there is found in neither -/
theorem ixAt (s : ByteArray) (hc : ∀ b ∈ s.data.toList, b ≠ 13 ∧ b ≠ 10) (pos : Nat) (hp : pos < s.size) (w : World) : Calls Tryz.prog 181 #[.string ⟨#[13, 10]⟩, .int .i32 ((Utf8.decode s pos).1 : Int)] w fun e w' => e = .returned (.int .i64 (-1)) ∧ Below w.heap.size w w' := by
  have hm := hc (s[pos]'hp) (by exact Array.getElem_mem_toList (xs := s.data) hp)
  by_cases h : (s[pos]'hp).toNat < 128
  · rw [decode_ascii s pos hp h]
    refine ixAscii _ h (fun e => hm.1 ?_) (fun e => hm.2 ?_) w
    · exact UInt8.toNat_inj.1 e
    · exact UInt8.toNat_inj.1 e
  · exact ixRune _ (by have := (decode_high s pos hp (by omega)).1; omega) (by have := decode_le s pos; omega) w
end

section
open Go.RowKit

set_option maxRecDepth 100000 in
set_option maxHeartbeats 8000000 in
theorem ixAnyShort (s : ByteArray) (h8 : s.size ≤ 8) (hc : ∀ b ∈ s.data.toList, b ≠ 13 ∧ b ≠ 10) (w : World) : Calls Tryz.prog 183 #[.string s, .string ⟨#[13, 10]⟩] w fun e w' => e = .returned (.int .i64 (-1)) ∧ Below w.heap.size w w' := by
  have h8z : decide ((8 : Int) < (s.size : Int)) = false := decide_eq_false (by omega)
  have CS : Hid (∀ w, Calls Tryz.prog 196 #[.int .i64 (s.size : Int)] w fun e w' => e = .returned (.bool (decide ((8 : Int) < (s.size : Int)))) ∧ w' = w) := Lib.hid (fun w => Any.strings_shouldUseASCIISet { Tryz.lays150 with } (s.size : Int) w)
  have CI := Lib.hid (fun pos hp w => ixAt s hc pos hp w)
  rw [h8z] at CS
  have hlt : ((-1 : Int) < 0) := by omega
  go_enter Tryz.func183, Tryz.ntmps183
  go_wp2_with fail
  (with_reducible refine (CS.out _).mono ?_); rintro e w' ⟨rfl, rfl⟩
  rename World => w
  have CI2 := CI
  clear CI
  go_wp2_with fail
  go_loopw [9, 10] (fun _ _ wx => ∃ i : Nat, wx.heap[w.heap.size]? = some (.stringIter s i) ∧ Below w.heap.size w wx) (fun _ _ wx => s.size - wx.iterPos w.heap.size)
  case atStart => exact ⟨0, World.iter_heap w _ 0, (Below.refl _ w).alloc (Nat.le_refl _) _⟩
  case round =>
    obtain ⟨i, hit, hbw⟩ := hrel
    rename World => wx
    have hsz : w.heap.size < wx.heap.size := (Array.getElem?_eq_some_iff.1 hit).1
    have hpos : wx.iterPos w.heap.size = i := by simp [World.iterPos, hit]
    by_cases hp : i < s.size
    · have hnx : ∀ ty, (Instr.next (.pointer (some ⟨w.heap.size, 0, none⟩)) true ty).run Tryz.prog wx = _ := fun ty => Lib.run_next_any_at wx w.heap.size s i ty hit hp
      have CR := Lib.hid (fun w => CI2.out i hp w)
      have hwd : 1 ≤ (Utf8.decode s i).2 := by
        by_cases h : (s[i]'hp).toNat < 128
        · rw [decode_ascii s i hp h]; exact Nat.le_refl _
        · exact (decode_high s i hp (by omega)).2
      obtain ⟨R, hR⟩ : ∃ R, (Utf8.decode s i).1 = R := ⟨_, rfl⟩
      obtain ⟨K, hK⟩ : ∃ K, (Utf8.decode s i).2 = K := ⟨_, rfl⟩
      rw [hR, hK] at hnx
      rw [hR] at CR
      rw [hK] at hwd
      have hit2 := Lib.iterAt_heap wx w.heap.size s i (i + K) hit
      have hbw2 := Lib.below_iterAt hbw (k := w.heap.size) (Nat.le_refl _) s (i + K)
      obtain ⟨W, hW⟩ : ∃ W, wx.iterAt w.heap.size s (i + K) = W := ⟨_, rfl⟩
      rw [hW] at hnx hit2 hbw2
      have hWs : w.heap.size < W.heap.size := (Array.getElem?_eq_some_iff.1 hit2).1
      have HI := Lib.hid (And.intro hit2 (And.intro hbw2 (And.intro hWs (And.intro hpos hwd))))
      clear hit2 hbw2 hit hbw hW hpos hWs hR hK hwd hsz
      go_wp2_with fail
      (with_reducible refine (CR.out _).mono ?_); rintro e w5 ⟨rfl, g5⟩
      have HG := Lib.hid g5
      clear g5
      go_wp2_with fail
      obtain ⟨i1, i2, i3, i4, i5⟩ := HI.out
      have i1' := (HG.out.block w.heap.size i3).trans i1
      have hp2 : w5.iterPos w.heap.size = i + K := by simp [World.iterPos, i1']
      exact ⟨⟨i + K, i1', i2.trans (HG.out.mono (by omega))⟩, by rw [hp2, i4]; omega⟩
    · have hnx : ∀ ty, (Instr.next (.pointer (some ⟨w.heap.size, 0, none⟩)) true ty).run Tryz.prog wx = _ := fun ty => Lib.run_next_end_at wx w.heap.size s i ty hit hp
      have HI := Lib.hid hbw
      clear hit hbw hpos
      go_wp2_with fail
      go_ret
      exact ⟨rfl, HI.out⟩
theorem hv116 : ∀ w, (zeroValue 196).run Tryz.prog w = .ok (.agg (Array.replicate 256 (.bool false))) w := by
  have h : (Tryz.prog.info? 196).map (fun i => (i.zero, i.size)) = some (some (.agg (Array.replicate 256 (.bool false))), 256) := by kernel_rfl
  exact (zero_of_info h).1
theorem cleanCA_any (l : List UInt8) (hl : l.length ≤ 1000) (hc : ∀ b ∈ l, b ≠ 13 ∧ b ≠ 10) : CleanCA (bs l) := by
  intro w1
  have CI : Hid (∀ w, Calls Tryz.prog 183 #[.string (bs l), .string ⟨#[13, 10]⟩] w fun e w' => e = .returned (.int .i64 (-1)) ∧ Below w.heap.size w w') := by
    intro w
    by_cases h8 : (bs l).size ≤ 8
    · exact ixAnyShort (bs l) h8 hc w
    · have h := Tryz.strings_IndexAny_long hv116 (bs l) ⟨#[13, 10]⟩ w (by show 2 ≤ 2; omega) (by omega) (by rw [bs_size]; omega) (by show 2 < _; omega) (fun j b hj => by
        have hj' : ([13, 10] : List UInt8)[j]? = some b := hj
        have := List.mem_of_getElem? hj'
        simp only [List.mem_cons, List.not_mem_nil, or_false] at this
        rcases this with rfl | rfl <;> decide)
      refine h.mono fun e w' ⟨he, hw⟩ => ⟨?_, by rw [hw]; exact ((Below.refl _ _).alloc (Nat.le_refl _) _).alloc (by simp) _⟩
      rw [he]
      exact congrArg (fun z => Ending.returned (.int .i64 z)) (indexAny_clean l hc)
  go_enter Tryz.func163, Tryz.ntmps163
  go_wp2_with fail
  (with_reducible refine (CI.out _).mono ?_); rintro e w' ⟨rfl, g⟩
  go_wp2_with fail
  go_ret
  exact ⟨rfl, g⟩
end

section
open Go.RowKit

theorem cleanCA_ok {c : Ck} (h : OkC c) : CleanCA (bs c.line) := cleanCA_any c.line (by have := h.len; omega) h.clean
end
end Go.Proofs.YtencphfhpnljlaaGreatDoor
