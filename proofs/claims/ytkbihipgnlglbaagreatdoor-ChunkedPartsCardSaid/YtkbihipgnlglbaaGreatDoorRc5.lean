/-
  The reference of chunked bodies: step.
-/
import Derived.Test.YtkbihipgnlglbaaGreatDoorRc4
import Derived.Test.YtkbihipgnlglbaaGreatDoorTr5
import Derived.Test.YtkbihipgnlglbaaGreatDoorCk2
namespace Go.Proofs.YtkbihipgnlglbaaGreatDoor
open Go.RowKit


set_option maxRecDepth 100000 in
set_option maxHeartbeats 8000000 in
theorem rEnded (st size dg left : Int) (B L : ByteArray) (lines : Nat) (status : Int) (w : World) (hL : L.size ≤ 1000) (hl : lines ≤ 32) : Calls Tryz.prog 49 #[.agg (ckA st size dg left B L lines status)] w fun e w' => e = .returned (.agg (if L.size = 0 then ckA 7 size dg left B L lines status else if (colT L.data.toList).2.2 ≠ 0 then ckA 8 0 0 0 B ⟨#[]⟩ 0 400 else ckA 5 0 0 0 B ⟨#[]⟩ (lines + 1 : Nat) 0)) ∧ Below w.heap.size w w' := by
  have cT : ∀ w, Calls Tryz.prog 64 #[.string L] w fun e w' => e = .returned (.tuple #[.string (bs (colT L.data.toList).1), .string (bs (colT L.data.toList).2.1), .int .i64 (colT L.data.toList).2.2]) ∧ Below w.heap.size w w' := fun w => (rColon L w (by omega)).mono fun e w' ⟨h, m, hm⟩ => ⟨h, by rw [hm]; exact below_drewN (Below.refl _ _) m⟩
  obtain ⟨⟨c0, c1, E⟩, hE⟩ : ∃ z, colT L.data.toList = z := ⟨_, rfl⟩
  rw [hE] at cT ⊢
  simp only at cT ⊢
  have CT := Lib.hid cT
  clear cT
  have cB := fun w => rBad st size dg left B L lines status 400 w
  unfold ckA at cB
  have CB := Lib.hid cB
  clear cB
  unfold ckA
  have fin : ∀ (c0 c : Array Value), Blk ((w.alloc (.cells c0 36)).alloc (.cells c 36)) (w.heap.size + 1) 36 c := fun c0 c => by
    have hb := Blk.new (w.alloc (.cells c0 36)) 36 c
    rw [World.size_alloc] at hb
    exact hb
  have FIN := Lib.hid fin
  clear fin
  have h2 : Below w.heap.size w ((w.alloc (.cells #[.int .i64 st, .int .i64 size, .int .i64 dg, .int .i64 left, .string B, .string L, .int .i64 lines, .int .i64 status] 36)).alloc (.cells #[.int .i64 0, .int .i64 0, .int .i64 0, .int .i64 0, .string ⟨#[]⟩, .string ⟨#[]⟩, .int .i64 0, .int .i64 0] 36)) := ((Below.refl _ _).alloc (Nat.le_refl _) _).alloc (by simp) _
  have H2 := Lib.hid h2
  clear h2
  have HX : Hid (Below w.heap.size w ((w.alloc (.cells #[.int .i64 st, .int .i64 size, .int .i64 dg, .int .i64 left, .string B, .string L, .int .i64 lines, .int .i64 status] 36)).alloc (.cells #[.int .i64 0, .int .i64 0, .int .i64 0, .int .i64 0, .string ⟨#[]⟩, .string ⟨#[]⟩, .int .i64 0, .int .i64 0] 36)) ∧ Blk ((w.alloc (.cells #[.int .i64 st, .int .i64 size, .int .i64 dg, .int .i64 left, .string B, .string L, .int .i64 lines, .int .i64 status] 36)).alloc (.cells #[.int .i64 0, .int .i64 0, .int .i64 0, .int .i64 0, .string ⟨#[]⟩, .string ⟨#[]⟩, .int .i64 0, .int .i64 0] 36)) w.heap.size 36 #[.int .i64 st, .int .i64 size, .int .i64 dg, .int .i64 left, .string B, .string L, .int .i64 lines, .int .i64 status] ∧ Blk ((w.alloc (.cells #[.int .i64 st, .int .i64 size, .int .i64 dg, .int .i64 left, .string B, .string L, .int .i64 lines, .int .i64 status] 36)).alloc (.cells #[.int .i64 0, .int .i64 0, .int .i64 0, .int .i64 0, .string ⟨#[]⟩, .string ⟨#[]⟩, .int .i64 0, .int .i64 0] 36)) (w.heap.size + 1) 36 #[.int .i64 0, .int .i64 0, .int .i64 0, .int .i64 0, .string ⟨#[]⟩, .string ⟨#[]⟩, .int .i64 0, .int .i64 0]) := Lib.hid ⟨((Below.refl _ _).alloc (Nat.le_refl _) _).alloc (by simp) _, (Blk.new w 36 _).below ((Below.refl _ _).alloc (Nat.le_refl _) _) (by simp), FIN.out _ _⟩
  by_cases h1 : L.size = 0
  · rw [if_pos h1]
    have hem : L.toList.isEmpty = true := emp_t' h1
    have hem2 : L.toList = [] := List.isEmpty_iff.1 hem
    clear h1
    go_enter Tryz.func49, Tryz.ntmps49
    go_wp2_with fail
    refine bodyPost_ret (results_cell_row (p := 2) (ty := 36) (by kernel_rfl) _ _ (w.heap.size + 1) 36 #[.int .i64 7, .int .i64 size, .int .i64 dg, .int .i64 left, .string B, .string L, .int .i64 lines, .int .i64 status] (0, 0) _ rfl (FIN.out _ _) Tryz.underlying36 rfl (by kernel_rfl)) rfl ?_
    exact ⟨rfl, ((Below.refl _ _).alloc (Nat.le_refl _) _).alloc (by simp) _⟩
  · rw [if_neg h1]
    have hem : L.toList.isEmpty = false := emp_f' h1
    have hem2 : ¬ L.toList = [] := fun e => by rw [e] at hem; cases hem
    clear h1
    by_cases h3 : E = 0
    · rw [if_neg (by simp [h3])]
      have e3 : ((E : Int) != 0) = false := by simp [h3]
      have hwl : IntKind.i64.wrap ((lines : Int) + 1) = ((lines + 1 : Nat) : Int) := by rw [IntKind.wrap_i64]; omega
      clear h3
      generalize ((lines + 1 : Nat) : Int) = l1 at *
      go_enter Tryz.func49, Tryz.ntmps49
      go_wp2_with fail
      (with_reducible refine (CT.out _).mono ?_); rintro e w1 ⟨rfl, g⟩
      obtain ⟨g0, hX, hZ⟩ := HX.out
      have hX := hX.below g hX.lt
      have hZ := hZ.below g hZ.lt
      have HX := Lib.hid (And.intro (g0.trans (g.mono g0.size)) (And.intro hX hZ))
      have x0 : w1.cell? ⟨w.heap.size, 0, none⟩ = some (.int .i64 st) := hX.cell 0
      have x1 : w1.cell? ⟨w.heap.size, 1, none⟩ = some (.int .i64 size) := hX.cell 1
      have x2 : w1.cell? ⟨w.heap.size, 2, none⟩ = some (.int .i64 dg) := hX.cell 2
      have x3 : w1.cell? ⟨w.heap.size, 3, none⟩ = some (.int .i64 left) := hX.cell 3
      have x4 : w1.cell? ⟨w.heap.size, 4, none⟩ = some (.string B) := hX.cell 4
      have x5 : w1.cell? ⟨w.heap.size, 5, none⟩ = some (.string L) := hX.cell 5
      have x6 : w1.cell? ⟨w.heap.size, 6, none⟩ = some (.int .i64 lines) := hX.cell 6
      have x7 : w1.cell? ⟨w.heap.size, 7, none⟩ = some (.int .i64 status) := hX.cell 7
      clear g0 g hX hZ
      obtain ⟨-, -, hZ⟩ := HX.out
      have z0 : w1.cell? ⟨w.heap.size + 1, 0, none⟩ = some (.int .i64 0) := hZ.cell 0
      have f0 : w1.frozen? ⟨w.heap.size + 1, 0, none⟩ = false := hZ.frozen 0
      have z1 : w1.cell? ⟨w.heap.size + 1, 1, none⟩ = some (.int .i64 0) := hZ.cell 1
      have f1 : w1.frozen? ⟨w.heap.size + 1, 1, none⟩ = false := hZ.frozen 1
      have z2 : w1.cell? ⟨w.heap.size + 1, 2, none⟩ = some (.int .i64 0) := hZ.cell 2
      have f2 : w1.frozen? ⟨w.heap.size + 1, 2, none⟩ = false := hZ.frozen 2
      have z3 : w1.cell? ⟨w.heap.size + 1, 3, none⟩ = some (.int .i64 0) := hZ.cell 3
      have f3 : w1.frozen? ⟨w.heap.size + 1, 3, none⟩ = false := hZ.frozen 3
      have z4 : w1.cell? ⟨w.heap.size + 1, 4, none⟩ = some (.string ⟨#[]⟩) := hZ.cell 4
      have f4 : w1.frozen? ⟨w.heap.size + 1, 4, none⟩ = false := hZ.frozen 4
      have z5 : w1.cell? ⟨w.heap.size + 1, 5, none⟩ = some (.string ⟨#[]⟩) := hZ.cell 5
      have f5 : w1.frozen? ⟨w.heap.size + 1, 5, none⟩ = false := hZ.frozen 5
      have z6 : w1.cell? ⟨w.heap.size + 1, 6, none⟩ = some (.int .i64 0) := hZ.cell 6
      have f6 : w1.frozen? ⟨w.heap.size + 1, 6, none⟩ = false := hZ.frozen 6
      have z7 : w1.cell? ⟨w.heap.size + 1, 7, none⟩ = some (.int .i64 0) := hZ.cell 7
      have f7 : w1.frozen? ⟨w.heap.size + 1, 7, none⟩ = false := hZ.frozen 7
      clear hZ
      go_wp2_with fail
      obtain ⟨g0, -, hz⟩ := HX.out
      have b := ((((((((hz.set_ 0 (.int .i64 5)).set_ 1 (.int .i64 0)).set_ 2 (.int .i64 0)).set_ 3 (.int .i64 0)).set_ 4 (.string B)).set_ 5 (.string ⟨#[]⟩)).set_ 6 (.int .i64 l1)).set_ 7 (.int .i64 0))
      have e : (((((((((#[.int .i64 0, .int .i64 0, .int .i64 0, .int .i64 0, .string ⟨#[]⟩, .string ⟨#[]⟩, .int .i64 0, .int .i64 0] : Array Value)).setIfInBounds 0 (.int .i64 5)).setIfInBounds 1 (.int .i64 0)).setIfInBounds 2 (.int .i64 0)).setIfInBounds 3 (.int .i64 0)).setIfInBounds 4 (.string B)).setIfInBounds 5 (.string ⟨#[]⟩)).setIfInBounds 6 (.int .i64 l1)).setIfInBounds 7 (.int .i64 0) = #[.int .i64 5, .int .i64 0, .int .i64 0, .int .i64 0, .string B, .string ⟨#[]⟩, .int .i64 l1, .int .i64 0] := by simp
      rw [e] at b
      refine bodyPost_ret (results_cell_row (p := 2) (ty := 36) (by kernel_rfl) _ _ (w.heap.size + 1) 36 #[.int .i64 5, .int .i64 0, .int .i64 0, .int .i64 0, .string B, .string ⟨#[]⟩, .int .i64 l1, .int .i64 0] (0, 0) _ rfl b Tryz.underlying36 rfl (by kernel_rfl)) rfl ?_
      exact ⟨rfl, ((((((((g0.setCell (by simp) _).setCell (by simp) _).setCell (by simp) _).setCell (by simp) _).setCell (by simp) _).setCell (by simp) _).setCell (by simp) _).setCell (by simp) _)⟩
    · rw [if_pos h3]
      have e3 : ((E : Int) != 0) = true := by rw [bne_iff_ne]; omega
      clear h3
      go_enter Tryz.func49, Tryz.ntmps49
      go_wp2_with fail
      (with_reducible refine (CT.out _).mono ?_); rintro e w1 ⟨rfl, g⟩
      obtain ⟨g0, hX, hZ⟩ := HX.out
      have hX := hX.below g hX.lt
      have hZ := hZ.below g hZ.lt
      have HX := Lib.hid (And.intro (g0.trans (g.mono g0.size)) (And.intro hX hZ))
      have x0 : w1.cell? ⟨w.heap.size, 0, none⟩ = some (.int .i64 st) := hX.cell 0
      have x1 : w1.cell? ⟨w.heap.size, 1, none⟩ = some (.int .i64 size) := hX.cell 1
      have x2 : w1.cell? ⟨w.heap.size, 2, none⟩ = some (.int .i64 dg) := hX.cell 2
      have x3 : w1.cell? ⟨w.heap.size, 3, none⟩ = some (.int .i64 left) := hX.cell 3
      have x4 : w1.cell? ⟨w.heap.size, 4, none⟩ = some (.string B) := hX.cell 4
      have x5 : w1.cell? ⟨w.heap.size, 5, none⟩ = some (.string L) := hX.cell 5
      have x6 : w1.cell? ⟨w.heap.size, 6, none⟩ = some (.int .i64 lines) := hX.cell 6
      have x7 : w1.cell? ⟨w.heap.size, 7, none⟩ = some (.int .i64 status) := hX.cell 7
      clear g0 g hX hZ
      go_wp2_with fail
      (with_reducible refine (CB.out _).mono ?_); rintro e w2 ⟨rfl, g⟩
      obtain ⟨g0, hX, hZ⟩ := HX.out
      have hX := hX.below g hX.lt
      have hZ := hZ.below g hZ.lt
      have HX := Lib.hid (And.intro (g0.trans (g.mono g0.size)) (And.intro hX hZ))
      have z0 : w2.cell? ⟨w.heap.size + 1, 0, none⟩ = some (.int .i64 0) := hZ.cell 0
      have f0 : w2.frozen? ⟨w.heap.size + 1, 0, none⟩ = false := hZ.frozen 0
      have z1 : w2.cell? ⟨w.heap.size + 1, 1, none⟩ = some (.int .i64 0) := hZ.cell 1
      have f1 : w2.frozen? ⟨w.heap.size + 1, 1, none⟩ = false := hZ.frozen 1
      have z2 : w2.cell? ⟨w.heap.size + 1, 2, none⟩ = some (.int .i64 0) := hZ.cell 2
      have f2 : w2.frozen? ⟨w.heap.size + 1, 2, none⟩ = false := hZ.frozen 2
      have z3 : w2.cell? ⟨w.heap.size + 1, 3, none⟩ = some (.int .i64 0) := hZ.cell 3
      have f3 : w2.frozen? ⟨w.heap.size + 1, 3, none⟩ = false := hZ.frozen 3
      have z4 : w2.cell? ⟨w.heap.size + 1, 4, none⟩ = some (.string ⟨#[]⟩) := hZ.cell 4
      have f4 : w2.frozen? ⟨w.heap.size + 1, 4, none⟩ = false := hZ.frozen 4
      have z5 : w2.cell? ⟨w.heap.size + 1, 5, none⟩ = some (.string ⟨#[]⟩) := hZ.cell 5
      have f5 : w2.frozen? ⟨w.heap.size + 1, 5, none⟩ = false := hZ.frozen 5
      have z6 : w2.cell? ⟨w.heap.size + 1, 6, none⟩ = some (.int .i64 0) := hZ.cell 6
      have f6 : w2.frozen? ⟨w.heap.size + 1, 6, none⟩ = false := hZ.frozen 6
      have z7 : w2.cell? ⟨w.heap.size + 1, 7, none⟩ = some (.int .i64 0) := hZ.cell 7
      have f7 : w2.frozen? ⟨w.heap.size + 1, 7, none⟩ = false := hZ.frozen 7
      clear g0 g hX hZ
      go_wp2_with fail
      obtain ⟨g0, -, hz⟩ := HX.out
      have b := ((((((((hz.set_ 0 (.int .i64 8)).set_ 1 (.int .i64 0)).set_ 2 (.int .i64 0)).set_ 3 (.int .i64 0)).set_ 4 (.string B)).set_ 5 (.string ⟨#[]⟩)).set_ 6 (.int .i64 0)).set_ 7 (.int .i64 400))
      have e : (((((((((#[.int .i64 0, .int .i64 0, .int .i64 0, .int .i64 0, .string ⟨#[]⟩, .string ⟨#[]⟩, .int .i64 0, .int .i64 0] : Array Value)).setIfInBounds 0 (.int .i64 8)).setIfInBounds 1 (.int .i64 0)).setIfInBounds 2 (.int .i64 0)).setIfInBounds 3 (.int .i64 0)).setIfInBounds 4 (.string B)).setIfInBounds 5 (.string ⟨#[]⟩)).setIfInBounds 6 (.int .i64 0)).setIfInBounds 7 (.int .i64 400) = #[.int .i64 8, .int .i64 0, .int .i64 0, .int .i64 0, .string B, .string ⟨#[]⟩, .int .i64 0, .int .i64 400] := by simp
      rw [e] at b
      refine bodyPost_ret (results_cell_row (p := 2) (ty := 36) (by kernel_rfl) _ _ (w.heap.size + 1) 36 #[.int .i64 8, .int .i64 0, .int .i64 0, .int .i64 0, .string B, .string ⟨#[]⟩, .int .i64 0, .int .i64 400] (0, 0) _ rfl b Tryz.underlying36 rfl (by kernel_rfl)) rfl ?_
      exact ⟨rfl, ((((((((g0.setCell (by simp) _).setCell (by simp) _).setCell (by simp) _).setCell (by simp) _).setCell (by simp) _).setCell (by simp) _).setCell (by simp) _).setCell (by simp) _)⟩
end Go.Proofs.YtkbihipgnlglbaaGreatDoor
