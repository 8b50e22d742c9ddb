/-
  The reference of chunked bodies: a step, each way.
-/
import Derived.Test.YtkbihipgnlglbaaGreatDoorRc5
namespace Go.Proofs.YtkbihipgnlglbaaGreatDoor
open Go.RowKit

set_option maxRecDepth 100000 in
set_option maxHeartbeats 8000000 in
theorem sDigit (size dg left : Int) (B L : ByteArray) (lines status : Int) (b : UInt8) (w : World) (hd : 0 ≤ digI b) (hd2 : digI b ≤ 15) (hg : dg < 8) (hg0 : 0 ≤ dg) (hs : 0 ≤ size) (hs2 : size < 4294967296) : Calls Tryz.prog 39 #[.agg (ckA 0 size dg left B L lines status), .int .u8 (b.toNat : Int)] w fun e w' => e = .returned (.agg (ckA (0) (16 * size + digI b) (dg + 1) (left) (B) (L) (lines) (status))) ∧ Below w.heap.size w w' := by
  have CD := Lib.hid (fun w => rDigit b w)
  unfold ckA
  have fin : ∀ (c0 c : Array Value), Blk ((w.alloc (.cells c0 36)).alloc (.cells c 36)) (w.heap.size + 1) 36 c := fun c0 c => by
    have hb := Blk.new (w.alloc (.cells c0 36)) 36 c
    rw [World.size_alloc] at hb
    exact hb
  have FIN := Lib.hid fin
  clear fin
  have h2 : Below w.heap.size w ((w.alloc (.cells #[.int .i64 0, .int .i64 size, .int .i64 dg, .int .i64 left, .string B, .string L, .int .i64 lines, .int .i64 status] 36)).alloc (.cells #[.int .i64 0, .int .i64 0, .int .i64 0, .int .i64 0, .string ⟨#[]⟩, .string ⟨#[]⟩, .int .i64 0, .int .i64 0] 36)) := ((Below.refl _ _).alloc (Nat.le_refl _) _).alloc (by simp) _
  have H2 := Lib.hid h2
  clear h2
  have HX : Hid (Below w.heap.size w ((w.alloc (.cells #[.int .i64 0, .int .i64 size, .int .i64 dg, .int .i64 left, .string B, .string L, .int .i64 lines, .int .i64 status] 36)).alloc (.cells #[.int .i64 0, .int .i64 0, .int .i64 0, .int .i64 0, .string ⟨#[]⟩, .string ⟨#[]⟩, .int .i64 0, .int .i64 0] 36)) ∧ Blk ((w.alloc (.cells #[.int .i64 0, .int .i64 size, .int .i64 dg, .int .i64 left, .string B, .string L, .int .i64 lines, .int .i64 status] 36)).alloc (.cells #[.int .i64 0, .int .i64 0, .int .i64 0, .int .i64 0, .string ⟨#[]⟩, .string ⟨#[]⟩, .int .i64 0, .int .i64 0] 36)) w.heap.size 36 #[.int .i64 0, .int .i64 size, .int .i64 dg, .int .i64 left, .string B, .string L, .int .i64 lines, .int .i64 status] ∧ Blk ((w.alloc (.cells #[.int .i64 0, .int .i64 size, .int .i64 dg, .int .i64 left, .string B, .string L, .int .i64 lines, .int .i64 status] 36)).alloc (.cells #[.int .i64 0, .int .i64 0, .int .i64 0, .int .i64 0, .string ⟨#[]⟩, .string ⟨#[]⟩, .int .i64 0, .int .i64 0] 36)) (w.heap.size + 1) 36 #[.int .i64 0, .int .i64 0, .int .i64 0, .int .i64 0, .string ⟨#[]⟩, .string ⟨#[]⟩, .int .i64 0, .int .i64 0]) := Lib.hid ⟨((Below.refl _ _).alloc (Nat.le_refl _) _).alloc (by simp) _, (Blk.new w 36 _).below ((Below.refl _ _).alloc (Nat.le_refl _) _) (by simp), FIN.out _ _⟩
  generalize digI b = d at *
  generalize (b.toNat : Int) = x at *
  have w1 : IntKind.i64.wrap (16 * size) = 16 * size := by rw [IntKind.wrap_i64]; omega
  have w2 : IntKind.i64.wrap (16 * size + d) = 16 * size + d := by rw [IntKind.wrap_i64]; omega
  have w3 : IntKind.i64.wrap (dg + 1) = dg + 1 := by rw [IntKind.wrap_i64]; omega
  go_enter Tryz.func39, Tryz.ntmps39
  go_wp2_with fail
  (with_reducible refine (CD.out _).mono ?_); rintro e w' ⟨rfl, rfl⟩
  go_wp2_with fail
  refine bodyPost_ret (results_cell_row (p := 4) (ty := 36) (by kernel_rfl) _ _ (w.heap.size + 1) 36 #[.int .i64 0, .int .i64 (16 * size + d), .int .i64 (dg + 1), .int .i64 left, .string B, .string L, .int .i64 lines, .int .i64 status] (0, 0) _ rfl (FIN.out _ _) Tryz.underlying36 rfl (by kernel_rfl)) rfl ?_
  exact ⟨rfl, ((Below.refl _ _).alloc (Nat.le_refl _) _).alloc (by simp) _⟩
set_option maxRecDepth 100000 in
set_option maxHeartbeats 8000000 in
theorem sCR (size dg left : Int) (B L : ByteArray) (lines status : Int) (b : UInt8) (w : World) (hd : digI b < 0) (h : (b.toNat : Int) = 13) (hg : 0 < dg) : Calls Tryz.prog 39 #[.agg (ckA 0 size dg left B L lines status), .int .u8 (b.toNat : Int)] w fun e w' => e = .returned (.agg (ckA (1) (size) (dg) (left) (B) (L) (lines) (status))) ∧ Below w.heap.size w w' := by
  have CD := Lib.hid (fun w => rDigit b w)
  unfold ckA
  have fin : ∀ (c0 c : Array Value), Blk ((w.alloc (.cells c0 36)).alloc (.cells c 36)) (w.heap.size + 1) 36 c := fun c0 c => by
    have hb := Blk.new (w.alloc (.cells c0 36)) 36 c
    rw [World.size_alloc] at hb
    exact hb
  have FIN := Lib.hid fin
  clear fin
  have h2 : Below w.heap.size w ((w.alloc (.cells #[.int .i64 0, .int .i64 size, .int .i64 dg, .int .i64 left, .string B, .string L, .int .i64 lines, .int .i64 status] 36)).alloc (.cells #[.int .i64 0, .int .i64 0, .int .i64 0, .int .i64 0, .string ⟨#[]⟩, .string ⟨#[]⟩, .int .i64 0, .int .i64 0] 36)) := ((Below.refl _ _).alloc (Nat.le_refl _) _).alloc (by simp) _
  have H2 := Lib.hid h2
  clear h2
  have HX : Hid (Below w.heap.size w ((w.alloc (.cells #[.int .i64 0, .int .i64 size, .int .i64 dg, .int .i64 left, .string B, .string L, .int .i64 lines, .int .i64 status] 36)).alloc (.cells #[.int .i64 0, .int .i64 0, .int .i64 0, .int .i64 0, .string ⟨#[]⟩, .string ⟨#[]⟩, .int .i64 0, .int .i64 0] 36)) ∧ Blk ((w.alloc (.cells #[.int .i64 0, .int .i64 size, .int .i64 dg, .int .i64 left, .string B, .string L, .int .i64 lines, .int .i64 status] 36)).alloc (.cells #[.int .i64 0, .int .i64 0, .int .i64 0, .int .i64 0, .string ⟨#[]⟩, .string ⟨#[]⟩, .int .i64 0, .int .i64 0] 36)) w.heap.size 36 #[.int .i64 0, .int .i64 size, .int .i64 dg, .int .i64 left, .string B, .string L, .int .i64 lines, .int .i64 status] ∧ Blk ((w.alloc (.cells #[.int .i64 0, .int .i64 size, .int .i64 dg, .int .i64 left, .string B, .string L, .int .i64 lines, .int .i64 status] 36)).alloc (.cells #[.int .i64 0, .int .i64 0, .int .i64 0, .int .i64 0, .string ⟨#[]⟩, .string ⟨#[]⟩, .int .i64 0, .int .i64 0] 36)) (w.heap.size + 1) 36 #[.int .i64 0, .int .i64 0, .int .i64 0, .int .i64 0, .string ⟨#[]⟩, .string ⟨#[]⟩, .int .i64 0, .int .i64 0]) := Lib.hid ⟨((Below.refl _ _).alloc (Nat.le_refl _) _).alloc (by simp) _, (Blk.new w 36 _).below ((Below.refl _ _).alloc (Nat.le_refl _) _) (by simp), FIN.out _ _⟩
  generalize digI b = d at *
  generalize (b.toNat : Int) = x at *
  subst h
  go_enter Tryz.func39, Tryz.ntmps39
  go_wp2_with fail
  (with_reducible refine (CD.out _).mono ?_); rintro e w' ⟨rfl, rfl⟩
  go_wp2_with fail
  refine bodyPost_ret (results_cell_row (p := 4) (ty := 36) (by kernel_rfl) _ _ (w.heap.size + 1) 36 #[.int .i64 1, .int .i64 size, .int .i64 dg, .int .i64 left, .string B, .string L, .int .i64 lines, .int .i64 status] (0, 0) _ rfl (FIN.out _ _) Tryz.underlying36 rfl (by kernel_rfl)) rfl ?_
  exact ⟨rfl, ((Below.refl _ _).alloc (Nat.le_refl _) _).alloc (by simp) _⟩
set_option maxRecDepth 100000 in
set_option maxHeartbeats 8000000 in
theorem sBad01 (size dg left : Int) (B L : ByteArray) (lines status : Int) (y0 y1 y2 y3 : Int) (y4 y5 : ByteArray) (y6 y7 : Int) (b : UInt8) (w : World) (hd : 0 ≤ digI b) (hg : 8 ≤ dg) (h : ¬ (b.toNat : Int) = 13) (hC : ∀ w : World, Calls Tryz.prog 50 #[.agg (ckA 0 size dg left B L lines status), .int .i64 400] w fun e w' => e = .returned (.agg (ckA y0 y1 y2 y3 y4 y5 y6 y7)) ∧ Below w.heap.size w w') : Calls Tryz.prog 39 #[.agg (ckA 0 size dg left B L lines status), .int .u8 (b.toNat : Int)] w fun e w' => e = .returned (.agg (ckA y0 y1 y2 y3 y4 y5 y6 y7)) ∧ Below w.heap.size w w' := by
  have CD := Lib.hid (fun w => rDigit b w)
  unfold ckA at hC ⊢
  have CC := Lib.hid hC
  clear hC
  have fin : ∀ (c0 c : Array Value), Blk ((w.alloc (.cells c0 36)).alloc (.cells c 36)) (w.heap.size + 1) 36 c := fun c0 c => by
    have hb := Blk.new (w.alloc (.cells c0 36)) 36 c
    rw [World.size_alloc] at hb
    exact hb
  have FIN := Lib.hid fin
  clear fin
  have h2 : Below w.heap.size w ((w.alloc (.cells #[.int .i64 0, .int .i64 size, .int .i64 dg, .int .i64 left, .string B, .string L, .int .i64 lines, .int .i64 status] 36)).alloc (.cells #[.int .i64 0, .int .i64 0, .int .i64 0, .int .i64 0, .string ⟨#[]⟩, .string ⟨#[]⟩, .int .i64 0, .int .i64 0] 36)) := ((Below.refl _ _).alloc (Nat.le_refl _) _).alloc (by simp) _
  have H2 := Lib.hid h2
  clear h2
  have HX : Hid (Below w.heap.size w ((w.alloc (.cells #[.int .i64 0, .int .i64 size, .int .i64 dg, .int .i64 left, .string B, .string L, .int .i64 lines, .int .i64 status] 36)).alloc (.cells #[.int .i64 0, .int .i64 0, .int .i64 0, .int .i64 0, .string ⟨#[]⟩, .string ⟨#[]⟩, .int .i64 0, .int .i64 0] 36)) ∧ Blk ((w.alloc (.cells #[.int .i64 0, .int .i64 size, .int .i64 dg, .int .i64 left, .string B, .string L, .int .i64 lines, .int .i64 status] 36)).alloc (.cells #[.int .i64 0, .int .i64 0, .int .i64 0, .int .i64 0, .string ⟨#[]⟩, .string ⟨#[]⟩, .int .i64 0, .int .i64 0] 36)) w.heap.size 36 #[.int .i64 0, .int .i64 size, .int .i64 dg, .int .i64 left, .string B, .string L, .int .i64 lines, .int .i64 status] ∧ Blk ((w.alloc (.cells #[.int .i64 0, .int .i64 size, .int .i64 dg, .int .i64 left, .string B, .string L, .int .i64 lines, .int .i64 status] 36)).alloc (.cells #[.int .i64 0, .int .i64 0, .int .i64 0, .int .i64 0, .string ⟨#[]⟩, .string ⟨#[]⟩, .int .i64 0, .int .i64 0] 36)) (w.heap.size + 1) 36 #[.int .i64 0, .int .i64 0, .int .i64 0, .int .i64 0, .string ⟨#[]⟩, .string ⟨#[]⟩, .int .i64 0, .int .i64 0]) := Lib.hid ⟨((Below.refl _ _).alloc (Nat.le_refl _) _).alloc (by simp) _, (Blk.new w 36 _).below ((Below.refl _ _).alloc (Nat.le_refl _) _) (by simp), FIN.out _ _⟩
  generalize digI b = d at *
  generalize (b.toNat : Int) = x at *
  have e1 : (x == 13) = false := by rw [beq_eq_false_iff_ne]; exact h
  go_enter Tryz.func39, Tryz.ntmps39
  go_wp2_with fail
  (with_reducible refine (CD.out _).mono ?_); rintro e w' ⟨rfl, rfl⟩
  go_wp2_with fail
  (with_reducible refine (CC.out _).mono ?_); rintro e w2 ⟨rfl, g⟩
  obtain ⟨g0, hX, hZ⟩ := HX.out
  have hX := hX.below g hX.lt
  have hZ := hZ.below g hZ.lt
  have HX := Lib.hid (And.intro (g0.trans (g.mono g0.size)) (And.intro hX hZ))
  have z0 : w2.cell? ⟨w.heap.size + 1, 0, none⟩ = some (.int .i64 0) := hZ.cell 0
  have f0 : w2.frozen? ⟨w.heap.size + 1, 0, none⟩ = false := hZ.frozen 0
  have z1 : w2.cell? ⟨w.heap.size + 1, 1, none⟩ = some (.int .i64 0) := hZ.cell 1
  have f1 : w2.frozen? ⟨w.heap.size + 1, 1, none⟩ = false := hZ.frozen 1
  have z2 : w2.cell? ⟨w.heap.size + 1, 2, none⟩ = some (.int .i64 0) := hZ.cell 2
  have f2 : w2.frozen? ⟨w.heap.size + 1, 2, none⟩ = false := hZ.frozen 2
  have z3 : w2.cell? ⟨w.heap.size + 1, 3, none⟩ = some (.int .i64 0) := hZ.cell 3
  have f3 : w2.frozen? ⟨w.heap.size + 1, 3, none⟩ = false := hZ.frozen 3
  have z4 : w2.cell? ⟨w.heap.size + 1, 4, none⟩ = some (.string ⟨#[]⟩) := hZ.cell 4
  have f4 : w2.frozen? ⟨w.heap.size + 1, 4, none⟩ = false := hZ.frozen 4
  have z5 : w2.cell? ⟨w.heap.size + 1, 5, none⟩ = some (.string ⟨#[]⟩) := hZ.cell 5
  have f5 : w2.frozen? ⟨w.heap.size + 1, 5, none⟩ = false := hZ.frozen 5
  have z6 : w2.cell? ⟨w.heap.size + 1, 6, none⟩ = some (.int .i64 0) := hZ.cell 6
  have f6 : w2.frozen? ⟨w.heap.size + 1, 6, none⟩ = false := hZ.frozen 6
  have z7 : w2.cell? ⟨w.heap.size + 1, 7, none⟩ = some (.int .i64 0) := hZ.cell 7
  have f7 : w2.frozen? ⟨w.heap.size + 1, 7, none⟩ = false := hZ.frozen 7
  clear g0 g hX hZ
  go_wp2_with fail
  obtain ⟨g0, -, hz⟩ := HX.out
  have b := ((((((((hz.set_ 0 (.int .i64 y0)).set_ 1 (.int .i64 y1)).set_ 2 (.int .i64 y2)).set_ 3 (.int .i64 y3)).set_ 4 (.string y4)).set_ 5 (.string y5)).set_ 6 (.int .i64 y6)).set_ 7 (.int .i64 y7))
  have e : (((((((((#[.int .i64 0, .int .i64 0, .int .i64 0, .int .i64 0, .string ⟨#[]⟩, .string ⟨#[]⟩, .int .i64 0, .int .i64 0] : Array Value)).setIfInBounds 0 (.int .i64 y0)).setIfInBounds 1 (.int .i64 y1)).setIfInBounds 2 (.int .i64 y2)).setIfInBounds 3 (.int .i64 y3)).setIfInBounds 4 (.string y4)).setIfInBounds 5 (.string y5)).setIfInBounds 6 (.int .i64 y6)).setIfInBounds 7 (.int .i64 y7) = #[.int .i64 y0, .int .i64 y1, .int .i64 y2, .int .i64 y3, .string y4, .string y5, .int .i64 y6, .int .i64 y7] := by simp
  rw [e] at b
  refine bodyPost_ret (results_cell_row (p := 4) (ty := 36) (by kernel_rfl) _ _ (w.heap.size + 1) 36 #[.int .i64 y0, .int .i64 y1, .int .i64 y2, .int .i64 y3, .string y4, .string y5, .int .i64 y6, .int .i64 y7] (0, 0) _ rfl b Tryz.underlying36 rfl (by kernel_rfl)) rfl ?_
  exact ⟨rfl, ((((((((g0.setCell (by simp) _).setCell (by simp) _).setCell (by simp) _).setCell (by simp) _).setCell (by simp) _).setCell (by simp) _).setCell (by simp) _).setCell (by simp) _)⟩
set_option maxRecDepth 100000 in
set_option maxHeartbeats 8000000 in
theorem sBad02 (size dg left : Int) (B L : ByteArray) (lines status : Int) (y0 y1 y2 y3 : Int) (y4 y5 : ByteArray) (y6 y7 : Int) (b : UInt8) (w : World) (hd : digI b < 0) (h : ¬ (b.toNat : Int) = 13) (hC : ∀ w : World, Calls Tryz.prog 50 #[.agg (ckA 0 size dg left B L lines status), .int .i64 400] w fun e w' => e = .returned (.agg (ckA y0 y1 y2 y3 y4 y5 y6 y7)) ∧ Below w.heap.size w w') : Calls Tryz.prog 39 #[.agg (ckA 0 size dg left B L lines status), .int .u8 (b.toNat : Int)] w fun e w' => e = .returned (.agg (ckA y0 y1 y2 y3 y4 y5 y6 y7)) ∧ Below w.heap.size w w' := by
  have CD := Lib.hid (fun w => rDigit b w)
  unfold ckA at hC ⊢
  have CC := Lib.hid hC
  clear hC
  have fin : ∀ (c0 c : Array Value), Blk ((w.alloc (.cells c0 36)).alloc (.cells c 36)) (w.heap.size + 1) 36 c := fun c0 c => by
    have hb := Blk.new (w.alloc (.cells c0 36)) 36 c
    rw [World.size_alloc] at hb
    exact hb
  have FIN := Lib.hid fin
  clear fin
  have h2 : Below w.heap.size w ((w.alloc (.cells #[.int .i64 0, .int .i64 size, .int .i64 dg, .int .i64 left, .string B, .string L, .int .i64 lines, .int .i64 status] 36)).alloc (.cells #[.int .i64 0, .int .i64 0, .int .i64 0, .int .i64 0, .string ⟨#[]⟩, .string ⟨#[]⟩, .int .i64 0, .int .i64 0] 36)) := ((Below.refl _ _).alloc (Nat.le_refl _) _).alloc (by simp) _
  have H2 := Lib.hid h2
  clear h2
  have HX : Hid (Below w.heap.size w ((w.alloc (.cells #[.int .i64 0, .int .i64 size, .int .i64 dg, .int .i64 left, .string B, .string L, .int .i64 lines, .int .i64 status] 36)).alloc (.cells #[.int .i64 0, .int .i64 0, .int .i64 0, .int .i64 0, .string ⟨#[]⟩, .string ⟨#[]⟩, .int .i64 0, .int .i64 0] 36)) ∧ Blk ((w.alloc (.cells #[.int .i64 0, .int .i64 size, .int .i64 dg, .int .i64 left, .string B, .string L, .int .i64 lines, .int .i64 status] 36)).alloc (.cells #[.int .i64 0, .int .i64 0, .int .i64 0, .int .i64 0, .string ⟨#[]⟩, .string ⟨#[]⟩, .int .i64 0, .int .i64 0] 36)) w.heap.size 36 #[.int .i64 0, .int .i64 size, .int .i64 dg, .int .i64 left, .string B, .string L, .int .i64 lines, .int .i64 status] ∧ Blk ((w.alloc (.cells #[.int .i64 0, .int .i64 size, .int .i64 dg, .int .i64 left, .string B, .string L, .int .i64 lines, .int .i64 status] 36)).alloc (.cells #[.int .i64 0, .int .i64 0, .int .i64 0, .int .i64 0, .string ⟨#[]⟩, .string ⟨#[]⟩, .int .i64 0, .int .i64 0] 36)) (w.heap.size + 1) 36 #[.int .i64 0, .int .i64 0, .int .i64 0, .int .i64 0, .string ⟨#[]⟩, .string ⟨#[]⟩, .int .i64 0, .int .i64 0]) := Lib.hid ⟨((Below.refl _ _).alloc (Nat.le_refl _) _).alloc (by simp) _, (Blk.new w 36 _).below ((Below.refl _ _).alloc (Nat.le_refl _) _) (by simp), FIN.out _ _⟩
  generalize digI b = d at *
  generalize (b.toNat : Int) = x at *
  have e1 : (x == 13) = false := by rw [beq_eq_false_iff_ne]; exact h
  go_enter Tryz.func39, Tryz.ntmps39
  go_wp2_with fail
  (with_reducible refine (CD.out _).mono ?_); rintro e w' ⟨rfl, rfl⟩
  go_wp2_with fail
  (with_reducible refine (CC.out _).mono ?_); rintro e w2 ⟨rfl, g⟩
  obtain ⟨g0, hX, hZ⟩ := HX.out
  have hX := hX.below g hX.lt
  have hZ := hZ.below g hZ.lt
  have HX := Lib.hid (And.intro (g0.trans (g.mono g0.size)) (And.intro hX hZ))
  have z0 : w2.cell? ⟨w.heap.size + 1, 0, none⟩ = some (.int .i64 0) := hZ.cell 0
  have f0 : w2.frozen? ⟨w.heap.size + 1, 0, none⟩ = false := hZ.frozen 0
  have z1 : w2.cell? ⟨w.heap.size + 1, 1, none⟩ = some (.int .i64 0) := hZ.cell 1
  have f1 : w2.frozen? ⟨w.heap.size + 1, 1, none⟩ = false := hZ.frozen 1
  have z2 : w2.cell? ⟨w.heap.size + 1, 2, none⟩ = some (.int .i64 0) := hZ.cell 2
  have f2 : w2.frozen? ⟨w.heap.size + 1, 2, none⟩ = false := hZ.frozen 2
  have z3 : w2.cell? ⟨w.heap.size + 1, 3, none⟩ = some (.int .i64 0) := hZ.cell 3
  have f3 : w2.frozen? ⟨w.heap.size + 1, 3, none⟩ = false := hZ.frozen 3
  have z4 : w2.cell? ⟨w.heap.size + 1, 4, none⟩ = some (.string ⟨#[]⟩) := hZ.cell 4
  have f4 : w2.frozen? ⟨w.heap.size + 1, 4, none⟩ = false := hZ.frozen 4
  have z5 : w2.cell? ⟨w.heap.size + 1, 5, none⟩ = some (.string ⟨#[]⟩) := hZ.cell 5
  have f5 : w2.frozen? ⟨w.heap.size + 1, 5, none⟩ = false := hZ.frozen 5
  have z6 : w2.cell? ⟨w.heap.size + 1, 6, none⟩ = some (.int .i64 0) := hZ.cell 6
  have f6 : w2.frozen? ⟨w.heap.size + 1, 6, none⟩ = false := hZ.frozen 6
  have z7 : w2.cell? ⟨w.heap.size + 1, 7, none⟩ = some (.int .i64 0) := hZ.cell 7
  have f7 : w2.frozen? ⟨w.heap.size + 1, 7, none⟩ = false := hZ.frozen 7
  clear g0 g hX hZ
  go_wp2_with fail
  obtain ⟨g0, -, hz⟩ := HX.out
  have b := ((((((((hz.set_ 0 (.int .i64 y0)).set_ 1 (.int .i64 y1)).set_ 2 (.int .i64 y2)).set_ 3 (.int .i64 y3)).set_ 4 (.string y4)).set_ 5 (.string y5)).set_ 6 (.int .i64 y6)).set_ 7 (.int .i64 y7))
  have e : (((((((((#[.int .i64 0, .int .i64 0, .int .i64 0, .int .i64 0, .string ⟨#[]⟩, .string ⟨#[]⟩, .int .i64 0, .int .i64 0] : Array Value)).setIfInBounds 0 (.int .i64 y0)).setIfInBounds 1 (.int .i64 y1)).setIfInBounds 2 (.int .i64 y2)).setIfInBounds 3 (.int .i64 y3)).setIfInBounds 4 (.string y4)).setIfInBounds 5 (.string y5)).setIfInBounds 6 (.int .i64 y6)).setIfInBounds 7 (.int .i64 y7) = #[.int .i64 y0, .int .i64 y1, .int .i64 y2, .int .i64 y3, .string y4, .string y5, .int .i64 y6, .int .i64 y7] := by simp
  rw [e] at b
  refine bodyPost_ret (results_cell_row (p := 4) (ty := 36) (by kernel_rfl) _ _ (w.heap.size + 1) 36 #[.int .i64 y0, .int .i64 y1, .int .i64 y2, .int .i64 y3, .string y4, .string y5, .int .i64 y6, .int .i64 y7] (0, 0) _ rfl b Tryz.underlying36 rfl (by kernel_rfl)) rfl ?_
  exact ⟨rfl, ((((((((g0.setCell (by simp) _).setCell (by simp) _).setCell (by simp) _).setCell (by simp) _).setCell (by simp) _).setCell (by simp) _).setCell (by simp) _).setCell (by simp) _)⟩
set_option maxRecDepth 100000 in
set_option maxHeartbeats 8000000 in
theorem sBad03 (size dg left : Int) (B L : ByteArray) (lines status : Int) (y0 y1 y2 y3 : Int) (y4 y5 : ByteArray) (y6 y7 : Int) (b : UInt8) (w : World) (hd : digI b < 0) (h : (b.toNat : Int) = 13) (hg : dg ≤ 0) (hC : ∀ w : World, Calls Tryz.prog 50 #[.agg (ckA 0 size dg left B L lines status), .int .i64 400] w fun e w' => e = .returned (.agg (ckA y0 y1 y2 y3 y4 y5 y6 y7)) ∧ Below w.heap.size w w') : Calls Tryz.prog 39 #[.agg (ckA 0 size dg left B L lines status), .int .u8 (b.toNat : Int)] w fun e w' => e = .returned (.agg (ckA y0 y1 y2 y3 y4 y5 y6 y7)) ∧ Below w.heap.size w w' := by
  have CD := Lib.hid (fun w => rDigit b w)
  unfold ckA at hC ⊢
  have CC := Lib.hid hC
  clear hC
  have fin : ∀ (c0 c : Array Value), Blk ((w.alloc (.cells c0 36)).alloc (.cells c 36)) (w.heap.size + 1) 36 c := fun c0 c => by
    have hb := Blk.new (w.alloc (.cells c0 36)) 36 c
    rw [World.size_alloc] at hb
    exact hb
  have FIN := Lib.hid fin
  clear fin
  have h2 : Below w.heap.size w ((w.alloc (.cells #[.int .i64 0, .int .i64 size, .int .i64 dg, .int .i64 left, .string B, .string L, .int .i64 lines, .int .i64 status] 36)).alloc (.cells #[.int .i64 0, .int .i64 0, .int .i64 0, .int .i64 0, .string ⟨#[]⟩, .string ⟨#[]⟩, .int .i64 0, .int .i64 0] 36)) := ((Below.refl _ _).alloc (Nat.le_refl _) _).alloc (by simp) _
  have H2 := Lib.hid h2
  clear h2
  have HX : Hid (Below w.heap.size w ((w.alloc (.cells #[.int .i64 0, .int .i64 size, .int .i64 dg, .int .i64 left, .string B, .string L, .int .i64 lines, .int .i64 status] 36)).alloc (.cells #[.int .i64 0, .int .i64 0, .int .i64 0, .int .i64 0, .string ⟨#[]⟩, .string ⟨#[]⟩, .int .i64 0, .int .i64 0] 36)) ∧ Blk ((w.alloc (.cells #[.int .i64 0, .int .i64 size, .int .i64 dg, .int .i64 left, .string B, .string L, .int .i64 lines, .int .i64 status] 36)).alloc (.cells #[.int .i64 0, .int .i64 0, .int .i64 0, .int .i64 0, .string ⟨#[]⟩, .string ⟨#[]⟩, .int .i64 0, .int .i64 0] 36)) w.heap.size 36 #[.int .i64 0, .int .i64 size, .int .i64 dg, .int .i64 left, .string B, .string L, .int .i64 lines, .int .i64 status] ∧ Blk ((w.alloc (.cells #[.int .i64 0, .int .i64 size, .int .i64 dg, .int .i64 left, .string B, .string L, .int .i64 lines, .int .i64 status] 36)).alloc (.cells #[.int .i64 0, .int .i64 0, .int .i64 0, .int .i64 0, .string ⟨#[]⟩, .string ⟨#[]⟩, .int .i64 0, .int .i64 0] 36)) (w.heap.size + 1) 36 #[.int .i64 0, .int .i64 0, .int .i64 0, .int .i64 0, .string ⟨#[]⟩, .string ⟨#[]⟩, .int .i64 0, .int .i64 0]) := Lib.hid ⟨((Below.refl _ _).alloc (Nat.le_refl _) _).alloc (by simp) _, (Blk.new w 36 _).below ((Below.refl _ _).alloc (Nat.le_refl _) _) (by simp), FIN.out _ _⟩
  generalize digI b = d at *
  generalize (b.toNat : Int) = x at *
  subst h
  go_enter Tryz.func39, Tryz.ntmps39
  go_wp2_with fail
  (with_reducible refine (CD.out _).mono ?_); rintro e w' ⟨rfl, rfl⟩
  go_wp2_with fail
  (with_reducible refine (CC.out _).mono ?_); rintro e w2 ⟨rfl, g⟩
  obtain ⟨g0, hX, hZ⟩ := HX.out
  have hX := hX.below g hX.lt
  have hZ := hZ.below g hZ.lt
  have HX := Lib.hid (And.intro (g0.trans (g.mono g0.size)) (And.intro hX hZ))
  have z0 : w2.cell? ⟨w.heap.size + 1, 0, none⟩ = some (.int .i64 0) := hZ.cell 0
  have f0 : w2.frozen? ⟨w.heap.size + 1, 0, none⟩ = false := hZ.frozen 0
  have z1 : w2.cell? ⟨w.heap.size + 1, 1, none⟩ = some (.int .i64 0) := hZ.cell 1
  have f1 : w2.frozen? ⟨w.heap.size + 1, 1, none⟩ = false := hZ.frozen 1
  have z2 : w2.cell? ⟨w.heap.size + 1, 2, none⟩ = some (.int .i64 0) := hZ.cell 2
  have f2 : w2.frozen? ⟨w.heap.size + 1, 2, none⟩ = false := hZ.frozen 2
  have z3 : w2.cell? ⟨w.heap.size + 1, 3, none⟩ = some (.int .i64 0) := hZ.cell 3
  have f3 : w2.frozen? ⟨w.heap.size + 1, 3, none⟩ = false := hZ.frozen 3
  have z4 : w2.cell? ⟨w.heap.size + 1, 4, none⟩ = some (.string ⟨#[]⟩) := hZ.cell 4
  have f4 : w2.frozen? ⟨w.heap.size + 1, 4, none⟩ = false := hZ.frozen 4
  have z5 : w2.cell? ⟨w.heap.size + 1, 5, none⟩ = some (.string ⟨#[]⟩) := hZ.cell 5
  have f5 : w2.frozen? ⟨w.heap.size + 1, 5, none⟩ = false := hZ.frozen 5
  have z6 : w2.cell? ⟨w.heap.size + 1, 6, none⟩ = some (.int .i64 0) := hZ.cell 6
  have f6 : w2.frozen? ⟨w.heap.size + 1, 6, none⟩ = false := hZ.frozen 6
  have z7 : w2.cell? ⟨w.heap.size + 1, 7, none⟩ = some (.int .i64 0) := hZ.cell 7
  have f7 : w2.frozen? ⟨w.heap.size + 1, 7, none⟩ = false := hZ.frozen 7
  clear g0 g hX hZ
  go_wp2_with fail
  obtain ⟨g0, -, hz⟩ := HX.out
  have b := ((((((((hz.set_ 0 (.int .i64 y0)).set_ 1 (.int .i64 y1)).set_ 2 (.int .i64 y2)).set_ 3 (.int .i64 y3)).set_ 4 (.string y4)).set_ 5 (.string y5)).set_ 6 (.int .i64 y6)).set_ 7 (.int .i64 y7))
  have e : (((((((((#[.int .i64 0, .int .i64 0, .int .i64 0, .int .i64 0, .string ⟨#[]⟩, .string ⟨#[]⟩, .int .i64 0, .int .i64 0] : Array Value)).setIfInBounds 0 (.int .i64 y0)).setIfInBounds 1 (.int .i64 y1)).setIfInBounds 2 (.int .i64 y2)).setIfInBounds 3 (.int .i64 y3)).setIfInBounds 4 (.string y4)).setIfInBounds 5 (.string y5)).setIfInBounds 6 (.int .i64 y6)).setIfInBounds 7 (.int .i64 y7) = #[.int .i64 y0, .int .i64 y1, .int .i64 y2, .int .i64 y3, .string y4, .string y5, .int .i64 y6, .int .i64 y7] := by simp
  rw [e] at b
  refine bodyPost_ret (results_cell_row (p := 4) (ty := 36) (by kernel_rfl) _ _ (w.heap.size + 1) 36 #[.int .i64 y0, .int .i64 y1, .int .i64 y2, .int .i64 y3, .string y4, .string y5, .int .i64 y6, .int .i64 y7] (0, 0) _ rfl b Tryz.underlying36 rfl (by kernel_rfl)) rfl ?_
  exact ⟨rfl, ((((((((g0.setCell (by simp) _).setCell (by simp) _).setCell (by simp) _).setCell (by simp) _).setCell (by simp) _).setCell (by simp) _).setCell (by simp) _).setCell (by simp) _)⟩
set_option maxRecDepth 100000 in
set_option maxHeartbeats 8000000 in
theorem sSized (size dg left : Int) (B L : ByteArray) (lines status : Int) (y0 y1 y2 y3 : Int) (y4 y5 : ByteArray) (y6 y7 : Int) (b : UInt8) (w : World) (h : (b.toNat : Int) = 10) (hC : ∀ w : World, Calls Tryz.prog 47 #[.agg (ckA 1 size dg left B L lines status)] w fun e w' => e = .returned (.agg (ckA y0 y1 y2 y3 y4 y5 y6 y7)) ∧ Below w.heap.size w w') : Calls Tryz.prog 39 #[.agg (ckA 1 size dg left B L lines status), .int .u8 (b.toNat : Int)] w fun e w' => e = .returned (.agg (ckA y0 y1 y2 y3 y4 y5 y6 y7)) ∧ Below w.heap.size w w' := by
  have CD := Lib.hid (fun w => rDigit b w)
  unfold ckA at hC ⊢
  have CC := Lib.hid hC
  clear hC
  have fin : ∀ (c0 c : Array Value), Blk ((w.alloc (.cells c0 36)).alloc (.cells c 36)) (w.heap.size + 1) 36 c := fun c0 c => by
    have hb := Blk.new (w.alloc (.cells c0 36)) 36 c
    rw [World.size_alloc] at hb
    exact hb
  have FIN := Lib.hid fin
  clear fin
  have h2 : Below w.heap.size w ((w.alloc (.cells #[.int .i64 1, .int .i64 size, .int .i64 dg, .int .i64 left, .string B, .string L, .int .i64 lines, .int .i64 status] 36)).alloc (.cells #[.int .i64 0, .int .i64 0, .int .i64 0, .int .i64 0, .string ⟨#[]⟩, .string ⟨#[]⟩, .int .i64 0, .int .i64 0] 36)) := ((Below.refl _ _).alloc (Nat.le_refl _) _).alloc (by simp) _
  have H2 := Lib.hid h2
  clear h2
  have HX : Hid (Below w.heap.size w ((w.alloc (.cells #[.int .i64 1, .int .i64 size, .int .i64 dg, .int .i64 left, .string B, .string L, .int .i64 lines, .int .i64 status] 36)).alloc (.cells #[.int .i64 0, .int .i64 0, .int .i64 0, .int .i64 0, .string ⟨#[]⟩, .string ⟨#[]⟩, .int .i64 0, .int .i64 0] 36)) ∧ Blk ((w.alloc (.cells #[.int .i64 1, .int .i64 size, .int .i64 dg, .int .i64 left, .string B, .string L, .int .i64 lines, .int .i64 status] 36)).alloc (.cells #[.int .i64 0, .int .i64 0, .int .i64 0, .int .i64 0, .string ⟨#[]⟩, .string ⟨#[]⟩, .int .i64 0, .int .i64 0] 36)) w.heap.size 36 #[.int .i64 1, .int .i64 size, .int .i64 dg, .int .i64 left, .string B, .string L, .int .i64 lines, .int .i64 status] ∧ Blk ((w.alloc (.cells #[.int .i64 1, .int .i64 size, .int .i64 dg, .int .i64 left, .string B, .string L, .int .i64 lines, .int .i64 status] 36)).alloc (.cells #[.int .i64 0, .int .i64 0, .int .i64 0, .int .i64 0, .string ⟨#[]⟩, .string ⟨#[]⟩, .int .i64 0, .int .i64 0] 36)) (w.heap.size + 1) 36 #[.int .i64 0, .int .i64 0, .int .i64 0, .int .i64 0, .string ⟨#[]⟩, .string ⟨#[]⟩, .int .i64 0, .int .i64 0]) := Lib.hid ⟨((Below.refl _ _).alloc (Nat.le_refl _) _).alloc (by simp) _, (Blk.new w 36 _).below ((Below.refl _ _).alloc (Nat.le_refl _) _) (by simp), FIN.out _ _⟩
  generalize digI b = d at *
  generalize (b.toNat : Int) = x at *
  subst h
  go_enter Tryz.func39, Tryz.ntmps39
  go_wp2_with fail
  (with_reducible refine (CD.out _).mono ?_); rintro e w' ⟨rfl, rfl⟩
  go_wp2_with fail
  (with_reducible refine (CC.out _).mono ?_); rintro e w2 ⟨rfl, g⟩
  obtain ⟨g0, hX, hZ⟩ := HX.out
  have hX := hX.below g hX.lt
  have hZ := hZ.below g hZ.lt
  have HX := Lib.hid (And.intro (g0.trans (g.mono g0.size)) (And.intro hX hZ))
  have z0 : w2.cell? ⟨w.heap.size + 1, 0, none⟩ = some (.int .i64 0) := hZ.cell 0
  have f0 : w2.frozen? ⟨w.heap.size + 1, 0, none⟩ = false := hZ.frozen 0
  have z1 : w2.cell? ⟨w.heap.size + 1, 1, none⟩ = some (.int .i64 0) := hZ.cell 1
  have f1 : w2.frozen? ⟨w.heap.size + 1, 1, none⟩ = false := hZ.frozen 1
  have z2 : w2.cell? ⟨w.heap.size + 1, 2, none⟩ = some (.int .i64 0) := hZ.cell 2
  have f2 : w2.frozen? ⟨w.heap.size + 1, 2, none⟩ = false := hZ.frozen 2
  have z3 : w2.cell? ⟨w.heap.size + 1, 3, none⟩ = some (.int .i64 0) := hZ.cell 3
  have f3 : w2.frozen? ⟨w.heap.size + 1, 3, none⟩ = false := hZ.frozen 3
  have z4 : w2.cell? ⟨w.heap.size + 1, 4, none⟩ = some (.string ⟨#[]⟩) := hZ.cell 4
  have f4 : w2.frozen? ⟨w.heap.size + 1, 4, none⟩ = false := hZ.frozen 4
  have z5 : w2.cell? ⟨w.heap.size + 1, 5, none⟩ = some (.string ⟨#[]⟩) := hZ.cell 5
  have f5 : w2.frozen? ⟨w.heap.size + 1, 5, none⟩ = false := hZ.frozen 5
  have z6 : w2.cell? ⟨w.heap.size + 1, 6, none⟩ = some (.int .i64 0) := hZ.cell 6
  have f6 : w2.frozen? ⟨w.heap.size + 1, 6, none⟩ = false := hZ.frozen 6
  have z7 : w2.cell? ⟨w.heap.size + 1, 7, none⟩ = some (.int .i64 0) := hZ.cell 7
  have f7 : w2.frozen? ⟨w.heap.size + 1, 7, none⟩ = false := hZ.frozen 7
  clear g0 g hX hZ
  go_wp2_with fail
  obtain ⟨g0, -, hz⟩ := HX.out
  have b := ((((((((hz.set_ 0 (.int .i64 y0)).set_ 1 (.int .i64 y1)).set_ 2 (.int .i64 y2)).set_ 3 (.int .i64 y3)).set_ 4 (.string y4)).set_ 5 (.string y5)).set_ 6 (.int .i64 y6)).set_ 7 (.int .i64 y7))
  have e : (((((((((#[.int .i64 0, .int .i64 0, .int .i64 0, .int .i64 0, .string ⟨#[]⟩, .string ⟨#[]⟩, .int .i64 0, .int .i64 0] : Array Value)).setIfInBounds 0 (.int .i64 y0)).setIfInBounds 1 (.int .i64 y1)).setIfInBounds 2 (.int .i64 y2)).setIfInBounds 3 (.int .i64 y3)).setIfInBounds 4 (.string y4)).setIfInBounds 5 (.string y5)).setIfInBounds 6 (.int .i64 y6)).setIfInBounds 7 (.int .i64 y7) = #[.int .i64 y0, .int .i64 y1, .int .i64 y2, .int .i64 y3, .string y4, .string y5, .int .i64 y6, .int .i64 y7] := by simp
  rw [e] at b
  refine bodyPost_ret (results_cell_row (p := 4) (ty := 36) (by kernel_rfl) _ _ (w.heap.size + 1) 36 #[.int .i64 y0, .int .i64 y1, .int .i64 y2, .int .i64 y3, .string y4, .string y5, .int .i64 y6, .int .i64 y7] (0, 0) _ rfl b Tryz.underlying36 rfl (by kernel_rfl)) rfl ?_
  exact ⟨rfl, ((((((((g0.setCell (by simp) _).setCell (by simp) _).setCell (by simp) _).setCell (by simp) _).setCell (by simp) _).setCell (by simp) _).setCell (by simp) _).setCell (by simp) _)⟩
set_option maxRecDepth 100000 in
set_option maxHeartbeats 8000000 in
theorem sBad1 (size dg left : Int) (B L : ByteArray) (lines status : Int) (y0 y1 y2 y3 : Int) (y4 y5 : ByteArray) (y6 y7 : Int) (b : UInt8) (w : World) (h : ¬ (b.toNat : Int) = 10) (hC : ∀ w : World, Calls Tryz.prog 50 #[.agg (ckA 1 size dg left B L lines status), .int .i64 400] w fun e w' => e = .returned (.agg (ckA y0 y1 y2 y3 y4 y5 y6 y7)) ∧ Below w.heap.size w w') : Calls Tryz.prog 39 #[.agg (ckA 1 size dg left B L lines status), .int .u8 (b.toNat : Int)] w fun e w' => e = .returned (.agg (ckA y0 y1 y2 y3 y4 y5 y6 y7)) ∧ Below w.heap.size w w' := by
  have CD := Lib.hid (fun w => rDigit b w)
  unfold ckA at hC ⊢
  have CC := Lib.hid hC
  clear hC
  have fin : ∀ (c0 c : Array Value), Blk ((w.alloc (.cells c0 36)).alloc (.cells c 36)) (w.heap.size + 1) 36 c := fun c0 c => by
    have hb := Blk.new (w.alloc (.cells c0 36)) 36 c
    rw [World.size_alloc] at hb
    exact hb
  have FIN := Lib.hid fin
  clear fin
  have h2 : Below w.heap.size w ((w.alloc (.cells #[.int .i64 1, .int .i64 size, .int .i64 dg, .int .i64 left, .string B, .string L, .int .i64 lines, .int .i64 status] 36)).alloc (.cells #[.int .i64 0, .int .i64 0, .int .i64 0, .int .i64 0, .string ⟨#[]⟩, .string ⟨#[]⟩, .int .i64 0, .int .i64 0] 36)) := ((Below.refl _ _).alloc (Nat.le_refl _) _).alloc (by simp) _
  have H2 := Lib.hid h2
  clear h2
  have HX : Hid (Below w.heap.size w ((w.alloc (.cells #[.int .i64 1, .int .i64 size, .int .i64 dg, .int .i64 left, .string B, .string L, .int .i64 lines, .int .i64 status] 36)).alloc (.cells #[.int .i64 0, .int .i64 0, .int .i64 0, .int .i64 0, .string ⟨#[]⟩, .string ⟨#[]⟩, .int .i64 0, .int .i64 0] 36)) ∧ Blk ((w.alloc (.cells #[.int .i64 1, .int .i64 size, .int .i64 dg, .int .i64 left, .string B, .string L, .int .i64 lines, .int .i64 status] 36)).alloc (.cells #[.int .i64 0, .int .i64 0, .int .i64 0, .int .i64 0, .string ⟨#[]⟩, .string ⟨#[]⟩, .int .i64 0, .int .i64 0] 36)) w.heap.size 36 #[.int .i64 1, .int .i64 size, .int .i64 dg, .int .i64 left, .string B, .string L, .int .i64 lines, .int .i64 status] ∧ Blk ((w.alloc (.cells #[.int .i64 1, .int .i64 size, .int .i64 dg, .int .i64 left, .string B, .string L, .int .i64 lines, .int .i64 status] 36)).alloc (.cells #[.int .i64 0, .int .i64 0, .int .i64 0, .int .i64 0, .string ⟨#[]⟩, .string ⟨#[]⟩, .int .i64 0, .int .i64 0] 36)) (w.heap.size + 1) 36 #[.int .i64 0, .int .i64 0, .int .i64 0, .int .i64 0, .string ⟨#[]⟩, .string ⟨#[]⟩, .int .i64 0, .int .i64 0]) := Lib.hid ⟨((Below.refl _ _).alloc (Nat.le_refl _) _).alloc (by simp) _, (Blk.new w 36 _).below ((Below.refl _ _).alloc (Nat.le_refl _) _) (by simp), FIN.out _ _⟩
  generalize digI b = d at *
  generalize (b.toNat : Int) = x at *
  have e1 : (x == 10) = false := by rw [beq_eq_false_iff_ne]; exact h
  go_enter Tryz.func39, Tryz.ntmps39
  go_wp2_with fail
  (with_reducible refine (CD.out _).mono ?_); rintro e w' ⟨rfl, rfl⟩
  go_wp2_with fail
  (with_reducible refine (CC.out _).mono ?_); rintro e w2 ⟨rfl, g⟩
  obtain ⟨g0, hX, hZ⟩ := HX.out
  have hX := hX.below g hX.lt
  have hZ := hZ.below g hZ.lt
  have HX := Lib.hid (And.intro (g0.trans (g.mono g0.size)) (And.intro hX hZ))
  have z0 : w2.cell? ⟨w.heap.size + 1, 0, none⟩ = some (.int .i64 0) := hZ.cell 0
  have f0 : w2.frozen? ⟨w.heap.size + 1, 0, none⟩ = false := hZ.frozen 0
  have z1 : w2.cell? ⟨w.heap.size + 1, 1, none⟩ = some (.int .i64 0) := hZ.cell 1
  have f1 : w2.frozen? ⟨w.heap.size + 1, 1, none⟩ = false := hZ.frozen 1
  have z2 : w2.cell? ⟨w.heap.size + 1, 2, none⟩ = some (.int .i64 0) := hZ.cell 2
  have f2 : w2.frozen? ⟨w.heap.size + 1, 2, none⟩ = false := hZ.frozen 2
  have z3 : w2.cell? ⟨w.heap.size + 1, 3, none⟩ = some (.int .i64 0) := hZ.cell 3
  have f3 : w2.frozen? ⟨w.heap.size + 1, 3, none⟩ = false := hZ.frozen 3
  have z4 : w2.cell? ⟨w.heap.size + 1, 4, none⟩ = some (.string ⟨#[]⟩) := hZ.cell 4
  have f4 : w2.frozen? ⟨w.heap.size + 1, 4, none⟩ = false := hZ.frozen 4
  have z5 : w2.cell? ⟨w.heap.size + 1, 5, none⟩ = some (.string ⟨#[]⟩) := hZ.cell 5
  have f5 : w2.frozen? ⟨w.heap.size + 1, 5, none⟩ = false := hZ.frozen 5
  have z6 : w2.cell? ⟨w.heap.size + 1, 6, none⟩ = some (.int .i64 0) := hZ.cell 6
  have f6 : w2.frozen? ⟨w.heap.size + 1, 6, none⟩ = false := hZ.frozen 6
  have z7 : w2.cell? ⟨w.heap.size + 1, 7, none⟩ = some (.int .i64 0) := hZ.cell 7
  have f7 : w2.frozen? ⟨w.heap.size + 1, 7, none⟩ = false := hZ.frozen 7
  clear g0 g hX hZ
  go_wp2_with fail
  obtain ⟨g0, -, hz⟩ := HX.out
  have b := ((((((((hz.set_ 0 (.int .i64 y0)).set_ 1 (.int .i64 y1)).set_ 2 (.int .i64 y2)).set_ 3 (.int .i64 y3)).set_ 4 (.string y4)).set_ 5 (.string y5)).set_ 6 (.int .i64 y6)).set_ 7 (.int .i64 y7))
  have e : (((((((((#[.int .i64 0, .int .i64 0, .int .i64 0, .int .i64 0, .string ⟨#[]⟩, .string ⟨#[]⟩, .int .i64 0, .int .i64 0] : Array Value)).setIfInBounds 0 (.int .i64 y0)).setIfInBounds 1 (.int .i64 y1)).setIfInBounds 2 (.int .i64 y2)).setIfInBounds 3 (.int .i64 y3)).setIfInBounds 4 (.string y4)).setIfInBounds 5 (.string y5)).setIfInBounds 6 (.int .i64 y6)).setIfInBounds 7 (.int .i64 y7) = #[.int .i64 y0, .int .i64 y1, .int .i64 y2, .int .i64 y3, .string y4, .string y5, .int .i64 y6, .int .i64 y7] := by simp
  rw [e] at b
  refine bodyPost_ret (results_cell_row (p := 4) (ty := 36) (by kernel_rfl) _ _ (w.heap.size + 1) 36 #[.int .i64 y0, .int .i64 y1, .int .i64 y2, .int .i64 y3, .string y4, .string y5, .int .i64 y6, .int .i64 y7] (0, 0) _ rfl b Tryz.underlying36 rfl (by kernel_rfl)) rfl ?_
  exact ⟨rfl, ((((((((g0.setCell (by simp) _).setCell (by simp) _).setCell (by simp) _).setCell (by simp) _).setCell (by simp) _).setCell (by simp) _).setCell (by simp) _).setCell (by simp) _)⟩
set_option maxRecDepth 100000 in
set_option maxHeartbeats 8000000 in
theorem sCR3 (size dg left : Int) (B L : ByteArray) (lines status : Int) (b : UInt8) (w : World) (h : (b.toNat : Int) = 13) : Calls Tryz.prog 39 #[.agg (ckA 3 size dg left B L lines status), .int .u8 (b.toNat : Int)] w fun e w' => e = .returned (.agg (ckA (4) (size) (dg) (left) (B) (L) (lines) (status))) ∧ Below w.heap.size w w' := by
  have CD := Lib.hid (fun w => rDigit b w)
  unfold ckA
  have fin : ∀ (c0 c : Array Value), Blk ((w.alloc (.cells c0 36)).alloc (.cells c 36)) (w.heap.size + 1) 36 c := fun c0 c => by
    have hb := Blk.new (w.alloc (.cells c0 36)) 36 c
    rw [World.size_alloc] at hb
    exact hb
  have FIN := Lib.hid fin
  clear fin
  have h2 : Below w.heap.size w ((w.alloc (.cells #[.int .i64 3, .int .i64 size, .int .i64 dg, .int .i64 left, .string B, .string L, .int .i64 lines, .int .i64 status] 36)).alloc (.cells #[.int .i64 0, .int .i64 0, .int .i64 0, .int .i64 0, .string ⟨#[]⟩, .string ⟨#[]⟩, .int .i64 0, .int .i64 0] 36)) := ((Below.refl _ _).alloc (Nat.le_refl _) _).alloc (by simp) _
  have H2 := Lib.hid h2
  clear h2
  have HX : Hid (Below w.heap.size w ((w.alloc (.cells #[.int .i64 3, .int .i64 size, .int .i64 dg, .int .i64 left, .string B, .string L, .int .i64 lines, .int .i64 status] 36)).alloc (.cells #[.int .i64 0, .int .i64 0, .int .i64 0, .int .i64 0, .string ⟨#[]⟩, .string ⟨#[]⟩, .int .i64 0, .int .i64 0] 36)) ∧ Blk ((w.alloc (.cells #[.int .i64 3, .int .i64 size, .int .i64 dg, .int .i64 left, .string B, .string L, .int .i64 lines, .int .i64 status] 36)).alloc (.cells #[.int .i64 0, .int .i64 0, .int .i64 0, .int .i64 0, .string ⟨#[]⟩, .string ⟨#[]⟩, .int .i64 0, .int .i64 0] 36)) w.heap.size 36 #[.int .i64 3, .int .i64 size, .int .i64 dg, .int .i64 left, .string B, .string L, .int .i64 lines, .int .i64 status] ∧ Blk ((w.alloc (.cells #[.int .i64 3, .int .i64 size, .int .i64 dg, .int .i64 left, .string B, .string L, .int .i64 lines, .int .i64 status] 36)).alloc (.cells #[.int .i64 0, .int .i64 0, .int .i64 0, .int .i64 0, .string ⟨#[]⟩, .string ⟨#[]⟩, .int .i64 0, .int .i64 0] 36)) (w.heap.size + 1) 36 #[.int .i64 0, .int .i64 0, .int .i64 0, .int .i64 0, .string ⟨#[]⟩, .string ⟨#[]⟩, .int .i64 0, .int .i64 0]) := Lib.hid ⟨((Below.refl _ _).alloc (Nat.le_refl _) _).alloc (by simp) _, (Blk.new w 36 _).below ((Below.refl _ _).alloc (Nat.le_refl _) _) (by simp), FIN.out _ _⟩
  generalize digI b = d at *
  generalize (b.toNat : Int) = x at *
  subst h
  go_enter Tryz.func39, Tryz.ntmps39
  go_wp2_with fail
  (with_reducible refine (CD.out _).mono ?_); rintro e w' ⟨rfl, rfl⟩
  go_wp2_with fail
  refine bodyPost_ret (results_cell_row (p := 4) (ty := 36) (by kernel_rfl) _ _ (w.heap.size + 1) 36 #[.int .i64 4, .int .i64 size, .int .i64 dg, .int .i64 left, .string B, .string L, .int .i64 lines, .int .i64 status] (0, 0) _ rfl (FIN.out _ _) Tryz.underlying36 rfl (by kernel_rfl)) rfl ?_
  exact ⟨rfl, ((Below.refl _ _).alloc (Nat.le_refl _) _).alloc (by simp) _⟩
set_option maxRecDepth 100000 in
set_option maxHeartbeats 8000000 in
theorem sBad3 (size dg left : Int) (B L : ByteArray) (lines status : Int) (y0 y1 y2 y3 : Int) (y4 y5 : ByteArray) (y6 y7 : Int) (b : UInt8) (w : World) (h : ¬ (b.toNat : Int) = 13) (hC : ∀ w : World, Calls Tryz.prog 50 #[.agg (ckA 3 size dg left B L lines status), .int .i64 400] w fun e w' => e = .returned (.agg (ckA y0 y1 y2 y3 y4 y5 y6 y7)) ∧ Below w.heap.size w w') : Calls Tryz.prog 39 #[.agg (ckA 3 size dg left B L lines status), .int .u8 (b.toNat : Int)] w fun e w' => e = .returned (.agg (ckA y0 y1 y2 y3 y4 y5 y6 y7)) ∧ Below w.heap.size w w' := by
  have CD := Lib.hid (fun w => rDigit b w)
  unfold ckA at hC ⊢
  have CC := Lib.hid hC
  clear hC
  have fin : ∀ (c0 c : Array Value), Blk ((w.alloc (.cells c0 36)).alloc (.cells c 36)) (w.heap.size + 1) 36 c := fun c0 c => by
    have hb := Blk.new (w.alloc (.cells c0 36)) 36 c
    rw [World.size_alloc] at hb
    exact hb
  have FIN := Lib.hid fin
  clear fin
  have h2 : Below w.heap.size w ((w.alloc (.cells #[.int .i64 3, .int .i64 size, .int .i64 dg, .int .i64 left, .string B, .string L, .int .i64 lines, .int .i64 status] 36)).alloc (.cells #[.int .i64 0, .int .i64 0, .int .i64 0, .int .i64 0, .string ⟨#[]⟩, .string ⟨#[]⟩, .int .i64 0, .int .i64 0] 36)) := ((Below.refl _ _).alloc (Nat.le_refl _) _).alloc (by simp) _
  have H2 := Lib.hid h2
  clear h2
  have HX : Hid (Below w.heap.size w ((w.alloc (.cells #[.int .i64 3, .int .i64 size, .int .i64 dg, .int .i64 left, .string B, .string L, .int .i64 lines, .int .i64 status] 36)).alloc (.cells #[.int .i64 0, .int .i64 0, .int .i64 0, .int .i64 0, .string ⟨#[]⟩, .string ⟨#[]⟩, .int .i64 0, .int .i64 0] 36)) ∧ Blk ((w.alloc (.cells #[.int .i64 3, .int .i64 size, .int .i64 dg, .int .i64 left, .string B, .string L, .int .i64 lines, .int .i64 status] 36)).alloc (.cells #[.int .i64 0, .int .i64 0, .int .i64 0, .int .i64 0, .string ⟨#[]⟩, .string ⟨#[]⟩, .int .i64 0, .int .i64 0] 36)) w.heap.size 36 #[.int .i64 3, .int .i64 size, .int .i64 dg, .int .i64 left, .string B, .string L, .int .i64 lines, .int .i64 status] ∧ Blk ((w.alloc (.cells #[.int .i64 3, .int .i64 size, .int .i64 dg, .int .i64 left, .string B, .string L, .int .i64 lines, .int .i64 status] 36)).alloc (.cells #[.int .i64 0, .int .i64 0, .int .i64 0, .int .i64 0, .string ⟨#[]⟩, .string ⟨#[]⟩, .int .i64 0, .int .i64 0] 36)) (w.heap.size + 1) 36 #[.int .i64 0, .int .i64 0, .int .i64 0, .int .i64 0, .string ⟨#[]⟩, .string ⟨#[]⟩, .int .i64 0, .int .i64 0]) := Lib.hid ⟨((Below.refl _ _).alloc (Nat.le_refl _) _).alloc (by simp) _, (Blk.new w 36 _).below ((Below.refl _ _).alloc (Nat.le_refl _) _) (by simp), FIN.out _ _⟩
  generalize digI b = d at *
  generalize (b.toNat : Int) = x at *
  have e1 : (x == 13) = false := by rw [beq_eq_false_iff_ne]; exact h
  go_enter Tryz.func39, Tryz.ntmps39
  go_wp2_with fail
  (with_reducible refine (CD.out _).mono ?_); rintro e w' ⟨rfl, rfl⟩
  go_wp2_with fail
  (with_reducible refine (CC.out _).mono ?_); rintro e w2 ⟨rfl, g⟩
  obtain ⟨g0, hX, hZ⟩ := HX.out
  have hX := hX.below g hX.lt
  have hZ := hZ.below g hZ.lt
  have HX := Lib.hid (And.intro (g0.trans (g.mono g0.size)) (And.intro hX hZ))
  have z0 : w2.cell? ⟨w.heap.size + 1, 0, none⟩ = some (.int .i64 0) := hZ.cell 0
  have f0 : w2.frozen? ⟨w.heap.size + 1, 0, none⟩ = false := hZ.frozen 0
  have z1 : w2.cell? ⟨w.heap.size + 1, 1, none⟩ = some (.int .i64 0) := hZ.cell 1
  have f1 : w2.frozen? ⟨w.heap.size + 1, 1, none⟩ = false := hZ.frozen 1
  have z2 : w2.cell? ⟨w.heap.size + 1, 2, none⟩ = some (.int .i64 0) := hZ.cell 2
  have f2 : w2.frozen? ⟨w.heap.size + 1, 2, none⟩ = false := hZ.frozen 2
  have z3 : w2.cell? ⟨w.heap.size + 1, 3, none⟩ = some (.int .i64 0) := hZ.cell 3
  have f3 : w2.frozen? ⟨w.heap.size + 1, 3, none⟩ = false := hZ.frozen 3
  have z4 : w2.cell? ⟨w.heap.size + 1, 4, none⟩ = some (.string ⟨#[]⟩) := hZ.cell 4
  have f4 : w2.frozen? ⟨w.heap.size + 1, 4, none⟩ = false := hZ.frozen 4
  have z5 : w2.cell? ⟨w.heap.size + 1, 5, none⟩ = some (.string ⟨#[]⟩) := hZ.cell 5
  have f5 : w2.frozen? ⟨w.heap.size + 1, 5, none⟩ = false := hZ.frozen 5
  have z6 : w2.cell? ⟨w.heap.size + 1, 6, none⟩ = some (.int .i64 0) := hZ.cell 6
  have f6 : w2.frozen? ⟨w.heap.size + 1, 6, none⟩ = false := hZ.frozen 6
  have z7 : w2.cell? ⟨w.heap.size + 1, 7, none⟩ = some (.int .i64 0) := hZ.cell 7
  have f7 : w2.frozen? ⟨w.heap.size + 1, 7, none⟩ = false := hZ.frozen 7
  clear g0 g hX hZ
  go_wp2_with fail
  obtain ⟨g0, -, hz⟩ := HX.out
  have b := ((((((((hz.set_ 0 (.int .i64 y0)).set_ 1 (.int .i64 y1)).set_ 2 (.int .i64 y2)).set_ 3 (.int .i64 y3)).set_ 4 (.string y4)).set_ 5 (.string y5)).set_ 6 (.int .i64 y6)).set_ 7 (.int .i64 y7))
  have e : (((((((((#[.int .i64 0, .int .i64 0, .int .i64 0, .int .i64 0, .string ⟨#[]⟩, .string ⟨#[]⟩, .int .i64 0, .int .i64 0] : Array Value)).setIfInBounds 0 (.int .i64 y0)).setIfInBounds 1 (.int .i64 y1)).setIfInBounds 2 (.int .i64 y2)).setIfInBounds 3 (.int .i64 y3)).setIfInBounds 4 (.string y4)).setIfInBounds 5 (.string y5)).setIfInBounds 6 (.int .i64 y6)).setIfInBounds 7 (.int .i64 y7) = #[.int .i64 y0, .int .i64 y1, .int .i64 y2, .int .i64 y3, .string y4, .string y5, .int .i64 y6, .int .i64 y7] := by simp
  rw [e] at b
  refine bodyPost_ret (results_cell_row (p := 4) (ty := 36) (by kernel_rfl) _ _ (w.heap.size + 1) 36 #[.int .i64 y0, .int .i64 y1, .int .i64 y2, .int .i64 y3, .string y4, .string y5, .int .i64 y6, .int .i64 y7] (0, 0) _ rfl b Tryz.underlying36 rfl (by kernel_rfl)) rfl ?_
  exact ⟨rfl, ((((((((g0.setCell (by simp) _).setCell (by simp) _).setCell (by simp) _).setCell (by simp) _).setCell (by simp) _).setCell (by simp) _).setCell (by simp) _).setCell (by simp) _)⟩
set_option maxRecDepth 100000 in
set_option maxHeartbeats 8000000 in
theorem sLF4 (size dg left : Int) (B L : ByteArray) (lines status : Int) (b : UInt8) (w : World) (h : (b.toNat : Int) = 10) : Calls Tryz.prog 39 #[.agg (ckA 4 size dg left B L lines status), .int .u8 (b.toNat : Int)] w fun e w' => e = .returned (.agg (ckA (0) (size) (dg) (left) (B) (L) (lines) (status))) ∧ Below w.heap.size w w' := by
  have CD := Lib.hid (fun w => rDigit b w)
  unfold ckA
  have fin : ∀ (c0 c : Array Value), Blk ((w.alloc (.cells c0 36)).alloc (.cells c 36)) (w.heap.size + 1) 36 c := fun c0 c => by
    have hb := Blk.new (w.alloc (.cells c0 36)) 36 c
    rw [World.size_alloc] at hb
    exact hb
  have FIN := Lib.hid fin
  clear fin
  have h2 : Below w.heap.size w ((w.alloc (.cells #[.int .i64 4, .int .i64 size, .int .i64 dg, .int .i64 left, .string B, .string L, .int .i64 lines, .int .i64 status] 36)).alloc (.cells #[.int .i64 0, .int .i64 0, .int .i64 0, .int .i64 0, .string ⟨#[]⟩, .string ⟨#[]⟩, .int .i64 0, .int .i64 0] 36)) := ((Below.refl _ _).alloc (Nat.le_refl _) _).alloc (by simp) _
  have H2 := Lib.hid h2
  clear h2
  have HX : Hid (Below w.heap.size w ((w.alloc (.cells #[.int .i64 4, .int .i64 size, .int .i64 dg, .int .i64 left, .string B, .string L, .int .i64 lines, .int .i64 status] 36)).alloc (.cells #[.int .i64 0, .int .i64 0, .int .i64 0, .int .i64 0, .string ⟨#[]⟩, .string ⟨#[]⟩, .int .i64 0, .int .i64 0] 36)) ∧ Blk ((w.alloc (.cells #[.int .i64 4, .int .i64 size, .int .i64 dg, .int .i64 left, .string B, .string L, .int .i64 lines, .int .i64 status] 36)).alloc (.cells #[.int .i64 0, .int .i64 0, .int .i64 0, .int .i64 0, .string ⟨#[]⟩, .string ⟨#[]⟩, .int .i64 0, .int .i64 0] 36)) w.heap.size 36 #[.int .i64 4, .int .i64 size, .int .i64 dg, .int .i64 left, .string B, .string L, .int .i64 lines, .int .i64 status] ∧ Blk ((w.alloc (.cells #[.int .i64 4, .int .i64 size, .int .i64 dg, .int .i64 left, .string B, .string L, .int .i64 lines, .int .i64 status] 36)).alloc (.cells #[.int .i64 0, .int .i64 0, .int .i64 0, .int .i64 0, .string ⟨#[]⟩, .string ⟨#[]⟩, .int .i64 0, .int .i64 0] 36)) (w.heap.size + 1) 36 #[.int .i64 0, .int .i64 0, .int .i64 0, .int .i64 0, .string ⟨#[]⟩, .string ⟨#[]⟩, .int .i64 0, .int .i64 0]) := Lib.hid ⟨((Below.refl _ _).alloc (Nat.le_refl _) _).alloc (by simp) _, (Blk.new w 36 _).below ((Below.refl _ _).alloc (Nat.le_refl _) _) (by simp), FIN.out _ _⟩
  generalize digI b = d at *
  generalize (b.toNat : Int) = x at *
  subst h
  go_enter Tryz.func39, Tryz.ntmps39
  go_wp2_with fail
  (with_reducible refine (CD.out _).mono ?_); rintro e w' ⟨rfl, rfl⟩
  go_wp2_with fail
  refine bodyPost_ret (results_cell_row (p := 4) (ty := 36) (by kernel_rfl) _ _ (w.heap.size + 1) 36 #[.int .i64 0, .int .i64 size, .int .i64 dg, .int .i64 left, .string B, .string L, .int .i64 lines, .int .i64 status] (0, 0) _ rfl (FIN.out _ _) Tryz.underlying36 rfl (by kernel_rfl)) rfl ?_
  exact ⟨rfl, ((Below.refl _ _).alloc (Nat.le_refl _) _).alloc (by simp) _⟩
set_option maxRecDepth 100000 in
set_option maxHeartbeats 8000000 in
theorem sBad4 (size dg left : Int) (B L : ByteArray) (lines status : Int) (y0 y1 y2 y3 : Int) (y4 y5 : ByteArray) (y6 y7 : Int) (b : UInt8) (w : World) (h : ¬ (b.toNat : Int) = 10) (hC : ∀ w : World, Calls Tryz.prog 50 #[.agg (ckA 4 size dg left B L lines status), .int .i64 400] w fun e w' => e = .returned (.agg (ckA y0 y1 y2 y3 y4 y5 y6 y7)) ∧ Below w.heap.size w w') : Calls Tryz.prog 39 #[.agg (ckA 4 size dg left B L lines status), .int .u8 (b.toNat : Int)] w fun e w' => e = .returned (.agg (ckA y0 y1 y2 y3 y4 y5 y6 y7)) ∧ Below w.heap.size w w' := by
  have CD := Lib.hid (fun w => rDigit b w)
  unfold ckA at hC ⊢
  have CC := Lib.hid hC
  clear hC
  have fin : ∀ (c0 c : Array Value), Blk ((w.alloc (.cells c0 36)).alloc (.cells c 36)) (w.heap.size + 1) 36 c := fun c0 c => by
    have hb := Blk.new (w.alloc (.cells c0 36)) 36 c
    rw [World.size_alloc] at hb
    exact hb
  have FIN := Lib.hid fin
  clear fin
  have h2 : Below w.heap.size w ((w.alloc (.cells #[.int .i64 4, .int .i64 size, .int .i64 dg, .int .i64 left, .string B, .string L, .int .i64 lines, .int .i64 status] 36)).alloc (.cells #[.int .i64 0, .int .i64 0, .int .i64 0, .int .i64 0, .string ⟨#[]⟩, .string ⟨#[]⟩, .int .i64 0, .int .i64 0] 36)) := ((Below.refl _ _).alloc (Nat.le_refl _) _).alloc (by simp) _
  have H2 := Lib.hid h2
  clear h2
  have HX : Hid (Below w.heap.size w ((w.alloc (.cells #[.int .i64 4, .int .i64 size, .int .i64 dg, .int .i64 left, .string B, .string L, .int .i64 lines, .int .i64 status] 36)).alloc (.cells #[.int .i64 0, .int .i64 0, .int .i64 0, .int .i64 0, .string ⟨#[]⟩, .string ⟨#[]⟩, .int .i64 0, .int .i64 0] 36)) ∧ Blk ((w.alloc (.cells #[.int .i64 4, .int .i64 size, .int .i64 dg, .int .i64 left, .string B, .string L, .int .i64 lines, .int .i64 status] 36)).alloc (.cells #[.int .i64 0, .int .i64 0, .int .i64 0, .int .i64 0, .string ⟨#[]⟩, .string ⟨#[]⟩, .int .i64 0, .int .i64 0] 36)) w.heap.size 36 #[.int .i64 4, .int .i64 size, .int .i64 dg, .int .i64 left, .string B, .string L, .int .i64 lines, .int .i64 status] ∧ Blk ((w.alloc (.cells #[.int .i64 4, .int .i64 size, .int .i64 dg, .int .i64 left, .string B, .string L, .int .i64 lines, .int .i64 status] 36)).alloc (.cells #[.int .i64 0, .int .i64 0, .int .i64 0, .int .i64 0, .string ⟨#[]⟩, .string ⟨#[]⟩, .int .i64 0, .int .i64 0] 36)) (w.heap.size + 1) 36 #[.int .i64 0, .int .i64 0, .int .i64 0, .int .i64 0, .string ⟨#[]⟩, .string ⟨#[]⟩, .int .i64 0, .int .i64 0]) := Lib.hid ⟨((Below.refl _ _).alloc (Nat.le_refl _) _).alloc (by simp) _, (Blk.new w 36 _).below ((Below.refl _ _).alloc (Nat.le_refl _) _) (by simp), FIN.out _ _⟩
  generalize digI b = d at *
  generalize (b.toNat : Int) = x at *
  have e1 : (x == 10) = false := by rw [beq_eq_false_iff_ne]; exact h
  go_enter Tryz.func39, Tryz.ntmps39
  go_wp2_with fail
  (with_reducible refine (CD.out _).mono ?_); rintro e w' ⟨rfl, rfl⟩
  go_wp2_with fail
  (with_reducible refine (CC.out _).mono ?_); rintro e w2 ⟨rfl, g⟩
  obtain ⟨g0, hX, hZ⟩ := HX.out
  have hX := hX.below g hX.lt
  have hZ := hZ.below g hZ.lt
  have HX := Lib.hid (And.intro (g0.trans (g.mono g0.size)) (And.intro hX hZ))
  have z0 : w2.cell? ⟨w.heap.size + 1, 0, none⟩ = some (.int .i64 0) := hZ.cell 0
  have f0 : w2.frozen? ⟨w.heap.size + 1, 0, none⟩ = false := hZ.frozen 0
  have z1 : w2.cell? ⟨w.heap.size + 1, 1, none⟩ = some (.int .i64 0) := hZ.cell 1
  have f1 : w2.frozen? ⟨w.heap.size + 1, 1, none⟩ = false := hZ.frozen 1
  have z2 : w2.cell? ⟨w.heap.size + 1, 2, none⟩ = some (.int .i64 0) := hZ.cell 2
  have f2 : w2.frozen? ⟨w.heap.size + 1, 2, none⟩ = false := hZ.frozen 2
  have z3 : w2.cell? ⟨w.heap.size + 1, 3, none⟩ = some (.int .i64 0) := hZ.cell 3
  have f3 : w2.frozen? ⟨w.heap.size + 1, 3, none⟩ = false := hZ.frozen 3
  have z4 : w2.cell? ⟨w.heap.size + 1, 4, none⟩ = some (.string ⟨#[]⟩) := hZ.cell 4
  have f4 : w2.frozen? ⟨w.heap.size + 1, 4, none⟩ = false := hZ.frozen 4
  have z5 : w2.cell? ⟨w.heap.size + 1, 5, none⟩ = some (.string ⟨#[]⟩) := hZ.cell 5
  have f5 : w2.frozen? ⟨w.heap.size + 1, 5, none⟩ = false := hZ.frozen 5
  have z6 : w2.cell? ⟨w.heap.size + 1, 6, none⟩ = some (.int .i64 0) := hZ.cell 6
  have f6 : w2.frozen? ⟨w.heap.size + 1, 6, none⟩ = false := hZ.frozen 6
  have z7 : w2.cell? ⟨w.heap.size + 1, 7, none⟩ = some (.int .i64 0) := hZ.cell 7
  have f7 : w2.frozen? ⟨w.heap.size + 1, 7, none⟩ = false := hZ.frozen 7
  clear g0 g hX hZ
  go_wp2_with fail
  obtain ⟨g0, -, hz⟩ := HX.out
  have b := ((((((((hz.set_ 0 (.int .i64 y0)).set_ 1 (.int .i64 y1)).set_ 2 (.int .i64 y2)).set_ 3 (.int .i64 y3)).set_ 4 (.string y4)).set_ 5 (.string y5)).set_ 6 (.int .i64 y6)).set_ 7 (.int .i64 y7))
  have e : (((((((((#[.int .i64 0, .int .i64 0, .int .i64 0, .int .i64 0, .string ⟨#[]⟩, .string ⟨#[]⟩, .int .i64 0, .int .i64 0] : Array Value)).setIfInBounds 0 (.int .i64 y0)).setIfInBounds 1 (.int .i64 y1)).setIfInBounds 2 (.int .i64 y2)).setIfInBounds 3 (.int .i64 y3)).setIfInBounds 4 (.string y4)).setIfInBounds 5 (.string y5)).setIfInBounds 6 (.int .i64 y6)).setIfInBounds 7 (.int .i64 y7) = #[.int .i64 y0, .int .i64 y1, .int .i64 y2, .int .i64 y3, .string y4, .string y5, .int .i64 y6, .int .i64 y7] := by simp
  rw [e] at b
  refine bodyPost_ret (results_cell_row (p := 4) (ty := 36) (by kernel_rfl) _ _ (w.heap.size + 1) 36 #[.int .i64 y0, .int .i64 y1, .int .i64 y2, .int .i64 y3, .string y4, .string y5, .int .i64 y6, .int .i64 y7] (0, 0) _ rfl b Tryz.underlying36 rfl (by kernel_rfl)) rfl ?_
  exact ⟨rfl, ((((((((g0.setCell (by simp) _).setCell (by simp) _).setCell (by simp) _).setCell (by simp) _).setCell (by simp) _).setCell (by simp) _).setCell (by simp) _).setCell (by simp) _)⟩
set_option maxRecDepth 100000 in
set_option maxHeartbeats 8000000 in
theorem sData1 (size dg left : Int) (B L : ByteArray) (lines status : Int) (b : UInt8) (w : World) (hB : B.size ≤ 3000) (hl : left = 1) : Calls Tryz.prog 39 #[.agg (ckA 2 size dg left B L lines status), .int .u8 (b.toNat : Int)] w fun e w' => e = .returned (.agg (ckA (3) (size) (dg) (0) (B ++ ⟨#[b]⟩) (L) (lines) (status))) ∧ Below w.heap.size w w' := by
  have CD := Lib.hid (fun w => rDigit b w)
  unfold ckA
  have hcv : ∀ (q : World) (k cap : Nat), q.cell? ⟨k, 0, none⟩ = some (.int .u8 (b.toNat : Int)) → (convert 42 9 (.slice (some ⟨k, 0, none⟩) 1 cap)).run Tryz.prog q = .ok (.string ⟨#[b]⟩) q := fun q k cap hq => by
    exact run_convert_bytes_back (P := Tryz.prog) q 42 9 5 ⟨k, 0, none⟩ cap [b] Tryz.underlying42 Tryz.underlying5 Tryz.underlying9 (fun j hj => by
      have : j = 0 := by simpa using hj
      subst this
      rw [show (⟨k, 0, none⟩ : Addr).add 0 = ⟨k, 0, none⟩ from rfl, hq]
      simp)
  have hbs : (⟨#[b]⟩ : ByteArray).size = 1 := rfl
  have s1 : ¬ 9223372036854775806 < B.size := by omega
  have s2 : ¬ 9223372036854775807 < B.size + 1 := by omega
  have s3 : ¬ 9223372036854775807 < B.size + (⟨#[b]⟩ : ByteArray).size := by omega
  have fin : ∀ (c0 c : Array Value), Blk ((w.alloc (.cells c0 36)).alloc (.cells c 36)) (w.heap.size + 1) 36 c := fun c0 c => by
    have hb := Blk.new (w.alloc (.cells c0 36)) 36 c
    rw [World.size_alloc] at hb
    exact hb
  have FIN := Lib.hid fin
  clear fin
  have h2 : Below w.heap.size w ((w.alloc (.cells #[.int .i64 2, .int .i64 size, .int .i64 dg, .int .i64 left, .string B, .string L, .int .i64 lines, .int .i64 status] 36)).alloc (.cells #[.int .i64 0, .int .i64 0, .int .i64 0, .int .i64 0, .string ⟨#[]⟩, .string ⟨#[]⟩, .int .i64 0, .int .i64 0] 36)) := ((Below.refl _ _).alloc (Nat.le_refl _) _).alloc (by simp) _
  have H2 := Lib.hid h2
  clear h2
  have HX : Hid (Below w.heap.size w ((w.alloc (.cells #[.int .i64 2, .int .i64 size, .int .i64 dg, .int .i64 left, .string B, .string L, .int .i64 lines, .int .i64 status] 36)).alloc (.cells #[.int .i64 0, .int .i64 0, .int .i64 0, .int .i64 0, .string ⟨#[]⟩, .string ⟨#[]⟩, .int .i64 0, .int .i64 0] 36)) ∧ Blk ((w.alloc (.cells #[.int .i64 2, .int .i64 size, .int .i64 dg, .int .i64 left, .string B, .string L, .int .i64 lines, .int .i64 status] 36)).alloc (.cells #[.int .i64 0, .int .i64 0, .int .i64 0, .int .i64 0, .string ⟨#[]⟩, .string ⟨#[]⟩, .int .i64 0, .int .i64 0] 36)) w.heap.size 36 #[.int .i64 2, .int .i64 size, .int .i64 dg, .int .i64 left, .string B, .string L, .int .i64 lines, .int .i64 status] ∧ Blk ((w.alloc (.cells #[.int .i64 2, .int .i64 size, .int .i64 dg, .int .i64 left, .string B, .string L, .int .i64 lines, .int .i64 status] 36)).alloc (.cells #[.int .i64 0, .int .i64 0, .int .i64 0, .int .i64 0, .string ⟨#[]⟩, .string ⟨#[]⟩, .int .i64 0, .int .i64 0] 36)) (w.heap.size + 1) 36 #[.int .i64 0, .int .i64 0, .int .i64 0, .int .i64 0, .string ⟨#[]⟩, .string ⟨#[]⟩, .int .i64 0, .int .i64 0]) := Lib.hid ⟨((Below.refl _ _).alloc (Nat.le_refl _) _).alloc (by simp) _, (Blk.new w 36 _).below ((Below.refl _ _).alloc (Nat.le_refl _) _) (by simp), FIN.out _ _⟩
  generalize (⟨#[b]⟩ : ByteArray) = bb at *
  generalize digI b = d at *
  generalize (b.toNat : Int) = x at *
  subst hl
  have hw : IntKind.i64.wrap ((1 : Int) - 1) = 0 := rfl
  go_enter Tryz.func39, Tryz.ntmps39
  go_wp2_with fail
  (with_reducible refine (CD.out _).mono ?_); rintro e w' ⟨rfl, rfl⟩
  go_wp2_with fail
  refine bodyPost_ret (results_cell_row (p := 4) (ty := 36) (by kernel_rfl) _ _ (w.heap.size + 1) 36 #[.int .i64 3, .int .i64 size, .int .i64 dg, .int .i64 0, .string (B ++ bb), .string L, .int .i64 lines, .int .i64 status] (0, 0) _ rfl ((FIN.out _ _).below ((Below.refl _ _).alloc (Nat.le_refl _) _) (by simp)) Tryz.underlying36 rfl (by kernel_rfl)) rfl ?_
  exact ⟨rfl, (((Below.refl _ _).alloc (Nat.le_refl _) _).alloc (by simp) _).alloc (by simp; omega) _⟩
set_option maxRecDepth 100000 in
set_option maxHeartbeats 8000000 in
theorem sDataN (size dg left : Int) (B L : ByteArray) (lines status : Int) (b : UInt8) (w : World) (hB : B.size ≤ 3000) (hl : 1 < left) (hl2 : left ≤ 2048) : Calls Tryz.prog 39 #[.agg (ckA 2 size dg left B L lines status), .int .u8 (b.toNat : Int)] w fun e w' => e = .returned (.agg (ckA (2) (size) (dg) (left - 1) (B ++ ⟨#[b]⟩) (L) (lines) (status))) ∧ Below w.heap.size w w' := by
  have CD := Lib.hid (fun w => rDigit b w)
  unfold ckA
  have hcv : ∀ (q : World) (k cap : Nat), q.cell? ⟨k, 0, none⟩ = some (.int .u8 (b.toNat : Int)) → (convert 42 9 (.slice (some ⟨k, 0, none⟩) 1 cap)).run Tryz.prog q = .ok (.string ⟨#[b]⟩) q := fun q k cap hq => by
    exact run_convert_bytes_back (P := Tryz.prog) q 42 9 5 ⟨k, 0, none⟩ cap [b] Tryz.underlying42 Tryz.underlying5 Tryz.underlying9 (fun j hj => by
      have : j = 0 := by simpa using hj
      subst this
      rw [show (⟨k, 0, none⟩ : Addr).add 0 = ⟨k, 0, none⟩ from rfl, hq]
      simp)
  have hbs : (⟨#[b]⟩ : ByteArray).size = 1 := rfl
  have s1 : ¬ 9223372036854775806 < B.size := by omega
  have s2 : ¬ 9223372036854775807 < B.size + 1 := by omega
  have s3 : ¬ 9223372036854775807 < B.size + (⟨#[b]⟩ : ByteArray).size := by omega
  have fin : ∀ (c0 c : Array Value), Blk ((w.alloc (.cells c0 36)).alloc (.cells c 36)) (w.heap.size + 1) 36 c := fun c0 c => by
    have hb := Blk.new (w.alloc (.cells c0 36)) 36 c
    rw [World.size_alloc] at hb
    exact hb
  have FIN := Lib.hid fin
  clear fin
  have h2 : Below w.heap.size w ((w.alloc (.cells #[.int .i64 2, .int .i64 size, .int .i64 dg, .int .i64 left, .string B, .string L, .int .i64 lines, .int .i64 status] 36)).alloc (.cells #[.int .i64 0, .int .i64 0, .int .i64 0, .int .i64 0, .string ⟨#[]⟩, .string ⟨#[]⟩, .int .i64 0, .int .i64 0] 36)) := ((Below.refl _ _).alloc (Nat.le_refl _) _).alloc (by simp) _
  have H2 := Lib.hid h2
  clear h2
  have HX : Hid (Below w.heap.size w ((w.alloc (.cells #[.int .i64 2, .int .i64 size, .int .i64 dg, .int .i64 left, .string B, .string L, .int .i64 lines, .int .i64 status] 36)).alloc (.cells #[.int .i64 0, .int .i64 0, .int .i64 0, .int .i64 0, .string ⟨#[]⟩, .string ⟨#[]⟩, .int .i64 0, .int .i64 0] 36)) ∧ Blk ((w.alloc (.cells #[.int .i64 2, .int .i64 size, .int .i64 dg, .int .i64 left, .string B, .string L, .int .i64 lines, .int .i64 status] 36)).alloc (.cells #[.int .i64 0, .int .i64 0, .int .i64 0, .int .i64 0, .string ⟨#[]⟩, .string ⟨#[]⟩, .int .i64 0, .int .i64 0] 36)) w.heap.size 36 #[.int .i64 2, .int .i64 size, .int .i64 dg, .int .i64 left, .string B, .string L, .int .i64 lines, .int .i64 status] ∧ Blk ((w.alloc (.cells #[.int .i64 2, .int .i64 size, .int .i64 dg, .int .i64 left, .string B, .string L, .int .i64 lines, .int .i64 status] 36)).alloc (.cells #[.int .i64 0, .int .i64 0, .int .i64 0, .int .i64 0, .string ⟨#[]⟩, .string ⟨#[]⟩, .int .i64 0, .int .i64 0] 36)) (w.heap.size + 1) 36 #[.int .i64 0, .int .i64 0, .int .i64 0, .int .i64 0, .string ⟨#[]⟩, .string ⟨#[]⟩, .int .i64 0, .int .i64 0]) := Lib.hid ⟨((Below.refl _ _).alloc (Nat.le_refl _) _).alloc (by simp) _, (Blk.new w 36 _).below ((Below.refl _ _).alloc (Nat.le_refl _) _) (by simp), FIN.out _ _⟩
  generalize (⟨#[b]⟩ : ByteArray) = bb at *
  generalize digI b = d at *
  generalize (b.toNat : Int) = x at *
  have hw : IntKind.i64.wrap (left - 1) = left - 1 := by rw [IntKind.wrap_i64]; omega
  have e0 : (left - 1 == 0) = false := by rw [beq_eq_false_iff_ne]; omega
  go_enter Tryz.func39, Tryz.ntmps39
  go_wp2_with fail
  (with_reducible refine (CD.out _).mono ?_); rintro e w' ⟨rfl, rfl⟩
  go_wp2_with fail
  refine bodyPost_ret (results_cell_row (p := 4) (ty := 36) (by kernel_rfl) _ _ (w.heap.size + 1) 36 #[.int .i64 2, .int .i64 size, .int .i64 dg, .int .i64 (left - 1), .string (B ++ bb), .string L, .int .i64 lines, .int .i64 status] (0, 0) _ rfl ((FIN.out _ _).below ((Below.refl _ _).alloc (Nat.le_refl _) _) (by simp)) Tryz.underlying36 rfl (by kernel_rfl)) rfl ?_
  exact ⟨rfl, (((Below.refl _ _).alloc (Nat.le_refl _) _).alloc (by simp) _).alloc (by simp; omega) _⟩
set_option maxRecDepth 100000 in
set_option maxHeartbeats 8000000 in
theorem sTrailer (size dg left : Int) (B L : ByteArray) (lines status : Int) (y0 y1 y2 y3 : Int) (y4 y5 : ByteArray) (y6 y7 : Int) (b : UInt8) (w : World)  (hC : ∀ w : World, Calls Tryz.prog 48 #[.agg (ckA 5 size dg left B L lines status), .int .u8 (b.toNat : Int)] w fun e w' => e = .returned (.agg (ckA y0 y1 y2 y3 y4 y5 y6 y7)) ∧ Below w.heap.size w w') : Calls Tryz.prog 39 #[.agg (ckA 5 size dg left B L lines status), .int .u8 (b.toNat : Int)] w fun e w' => e = .returned (.agg (ckA y0 y1 y2 y3 y4 y5 y6 y7)) ∧ Below w.heap.size w w' := by
  have CD := Lib.hid (fun w => rDigit b w)
  unfold ckA at hC ⊢
  have CC := Lib.hid hC
  clear hC
  have fin : ∀ (c0 c : Array Value), Blk ((w.alloc (.cells c0 36)).alloc (.cells c 36)) (w.heap.size + 1) 36 c := fun c0 c => by
    have hb := Blk.new (w.alloc (.cells c0 36)) 36 c
    rw [World.size_alloc] at hb
    exact hb
  have FIN := Lib.hid fin
  clear fin
  have h2 : Below w.heap.size w ((w.alloc (.cells #[.int .i64 5, .int .i64 size, .int .i64 dg, .int .i64 left, .string B, .string L, .int .i64 lines, .int .i64 status] 36)).alloc (.cells #[.int .i64 0, .int .i64 0, .int .i64 0, .int .i64 0, .string ⟨#[]⟩, .string ⟨#[]⟩, .int .i64 0, .int .i64 0] 36)) := ((Below.refl _ _).alloc (Nat.le_refl _) _).alloc (by simp) _
  have H2 := Lib.hid h2
  clear h2
  have HX : Hid (Below w.heap.size w ((w.alloc (.cells #[.int .i64 5, .int .i64 size, .int .i64 dg, .int .i64 left, .string B, .string L, .int .i64 lines, .int .i64 status] 36)).alloc (.cells #[.int .i64 0, .int .i64 0, .int .i64 0, .int .i64 0, .string ⟨#[]⟩, .string ⟨#[]⟩, .int .i64 0, .int .i64 0] 36)) ∧ Blk ((w.alloc (.cells #[.int .i64 5, .int .i64 size, .int .i64 dg, .int .i64 left, .string B, .string L, .int .i64 lines, .int .i64 status] 36)).alloc (.cells #[.int .i64 0, .int .i64 0, .int .i64 0, .int .i64 0, .string ⟨#[]⟩, .string ⟨#[]⟩, .int .i64 0, .int .i64 0] 36)) w.heap.size 36 #[.int .i64 5, .int .i64 size, .int .i64 dg, .int .i64 left, .string B, .string L, .int .i64 lines, .int .i64 status] ∧ Blk ((w.alloc (.cells #[.int .i64 5, .int .i64 size, .int .i64 dg, .int .i64 left, .string B, .string L, .int .i64 lines, .int .i64 status] 36)).alloc (.cells #[.int .i64 0, .int .i64 0, .int .i64 0, .int .i64 0, .string ⟨#[]⟩, .string ⟨#[]⟩, .int .i64 0, .int .i64 0] 36)) (w.heap.size + 1) 36 #[.int .i64 0, .int .i64 0, .int .i64 0, .int .i64 0, .string ⟨#[]⟩, .string ⟨#[]⟩, .int .i64 0, .int .i64 0]) := Lib.hid ⟨((Below.refl _ _).alloc (Nat.le_refl _) _).alloc (by simp) _, (Blk.new w 36 _).below ((Below.refl _ _).alloc (Nat.le_refl _) _) (by simp), FIN.out _ _⟩
  generalize digI b = d at *
  generalize (b.toNat : Int) = x at *
  go_enter Tryz.func39, Tryz.ntmps39
  go_wp2_with fail
  (with_reducible refine (CD.out _).mono ?_); rintro e w' ⟨rfl, rfl⟩
  go_wp2_with fail
  (with_reducible refine (CC.out _).mono ?_); rintro e w2 ⟨rfl, g⟩
  obtain ⟨g0, hX, hZ⟩ := HX.out
  have hX := hX.below g hX.lt
  have hZ := hZ.below g hZ.lt
  have HX := Lib.hid (And.intro (g0.trans (g.mono g0.size)) (And.intro hX hZ))
  have z0 : w2.cell? ⟨w.heap.size + 1, 0, none⟩ = some (.int .i64 0) := hZ.cell 0
  have f0 : w2.frozen? ⟨w.heap.size + 1, 0, none⟩ = false := hZ.frozen 0
  have z1 : w2.cell? ⟨w.heap.size + 1, 1, none⟩ = some (.int .i64 0) := hZ.cell 1
  have f1 : w2.frozen? ⟨w.heap.size + 1, 1, none⟩ = false := hZ.frozen 1
  have z2 : w2.cell? ⟨w.heap.size + 1, 2, none⟩ = some (.int .i64 0) := hZ.cell 2
  have f2 : w2.frozen? ⟨w.heap.size + 1, 2, none⟩ = false := hZ.frozen 2
  have z3 : w2.cell? ⟨w.heap.size + 1, 3, none⟩ = some (.int .i64 0) := hZ.cell 3
  have f3 : w2.frozen? ⟨w.heap.size + 1, 3, none⟩ = false := hZ.frozen 3
  have z4 : w2.cell? ⟨w.heap.size + 1, 4, none⟩ = some (.string ⟨#[]⟩) := hZ.cell 4
  have f4 : w2.frozen? ⟨w.heap.size + 1, 4, none⟩ = false := hZ.frozen 4
  have z5 : w2.cell? ⟨w.heap.size + 1, 5, none⟩ = some (.string ⟨#[]⟩) := hZ.cell 5
  have f5 : w2.frozen? ⟨w.heap.size + 1, 5, none⟩ = false := hZ.frozen 5
  have z6 : w2.cell? ⟨w.heap.size + 1, 6, none⟩ = some (.int .i64 0) := hZ.cell 6
  have f6 : w2.frozen? ⟨w.heap.size + 1, 6, none⟩ = false := hZ.frozen 6
  have z7 : w2.cell? ⟨w.heap.size + 1, 7, none⟩ = some (.int .i64 0) := hZ.cell 7
  have f7 : w2.frozen? ⟨w.heap.size + 1, 7, none⟩ = false := hZ.frozen 7
  clear g0 g hX hZ
  go_wp2_with fail
  obtain ⟨g0, -, hz⟩ := HX.out
  have b := ((((((((hz.set_ 0 (.int .i64 y0)).set_ 1 (.int .i64 y1)).set_ 2 (.int .i64 y2)).set_ 3 (.int .i64 y3)).set_ 4 (.string y4)).set_ 5 (.string y5)).set_ 6 (.int .i64 y6)).set_ 7 (.int .i64 y7))
  have e : (((((((((#[.int .i64 0, .int .i64 0, .int .i64 0, .int .i64 0, .string ⟨#[]⟩, .string ⟨#[]⟩, .int .i64 0, .int .i64 0] : Array Value)).setIfInBounds 0 (.int .i64 y0)).setIfInBounds 1 (.int .i64 y1)).setIfInBounds 2 (.int .i64 y2)).setIfInBounds 3 (.int .i64 y3)).setIfInBounds 4 (.string y4)).setIfInBounds 5 (.string y5)).setIfInBounds 6 (.int .i64 y6)).setIfInBounds 7 (.int .i64 y7) = #[.int .i64 y0, .int .i64 y1, .int .i64 y2, .int .i64 y3, .string y4, .string y5, .int .i64 y6, .int .i64 y7] := by simp
  rw [e] at b
  refine bodyPost_ret (results_cell_row (p := 4) (ty := 36) (by kernel_rfl) _ _ (w.heap.size + 1) 36 #[.int .i64 y0, .int .i64 y1, .int .i64 y2, .int .i64 y3, .string y4, .string y5, .int .i64 y6, .int .i64 y7] (0, 0) _ rfl b Tryz.underlying36 rfl (by kernel_rfl)) rfl ?_
  exact ⟨rfl, ((((((((g0.setCell (by simp) _).setCell (by simp) _).setCell (by simp) _).setCell (by simp) _).setCell (by simp) _).setCell (by simp) _).setCell (by simp) _).setCell (by simp) _)⟩
set_option maxRecDepth 100000 in
set_option maxHeartbeats 8000000 in
theorem sEnded (size dg left : Int) (B L : ByteArray) (lines status : Int) (y0 y1 y2 y3 : Int) (y4 y5 : ByteArray) (y6 y7 : Int) (b : UInt8) (w : World) (h : (b.toNat : Int) = 10) (hC : ∀ w : World, Calls Tryz.prog 49 #[.agg (ckA 6 size dg left B L lines status)] w fun e w' => e = .returned (.agg (ckA y0 y1 y2 y3 y4 y5 y6 y7)) ∧ Below w.heap.size w w') : Calls Tryz.prog 39 #[.agg (ckA 6 size dg left B L lines status), .int .u8 (b.toNat : Int)] w fun e w' => e = .returned (.agg (ckA y0 y1 y2 y3 y4 y5 y6 y7)) ∧ Below w.heap.size w w' := by
  have CD := Lib.hid (fun w => rDigit b w)
  unfold ckA at hC ⊢
  have CC := Lib.hid hC
  clear hC
  have fin : ∀ (c0 c : Array Value), Blk ((w.alloc (.cells c0 36)).alloc (.cells c 36)) (w.heap.size + 1) 36 c := fun c0 c => by
    have hb := Blk.new (w.alloc (.cells c0 36)) 36 c
    rw [World.size_alloc] at hb
    exact hb
  have FIN := Lib.hid fin
  clear fin
  have h2 : Below w.heap.size w ((w.alloc (.cells #[.int .i64 6, .int .i64 size, .int .i64 dg, .int .i64 left, .string B, .string L, .int .i64 lines, .int .i64 status] 36)).alloc (.cells #[.int .i64 0, .int .i64 0, .int .i64 0, .int .i64 0, .string ⟨#[]⟩, .string ⟨#[]⟩, .int .i64 0, .int .i64 0] 36)) := ((Below.refl _ _).alloc (Nat.le_refl _) _).alloc (by simp) _
  have H2 := Lib.hid h2
  clear h2
  have HX : Hid (Below w.heap.size w ((w.alloc (.cells #[.int .i64 6, .int .i64 size, .int .i64 dg, .int .i64 left, .string B, .string L, .int .i64 lines, .int .i64 status] 36)).alloc (.cells #[.int .i64 0, .int .i64 0, .int .i64 0, .int .i64 0, .string ⟨#[]⟩, .string ⟨#[]⟩, .int .i64 0, .int .i64 0] 36)) ∧ Blk ((w.alloc (.cells #[.int .i64 6, .int .i64 size, .int .i64 dg, .int .i64 left, .string B, .string L, .int .i64 lines, .int .i64 status] 36)).alloc (.cells #[.int .i64 0, .int .i64 0, .int .i64 0, .int .i64 0, .string ⟨#[]⟩, .string ⟨#[]⟩, .int .i64 0, .int .i64 0] 36)) w.heap.size 36 #[.int .i64 6, .int .i64 size, .int .i64 dg, .int .i64 left, .string B, .string L, .int .i64 lines, .int .i64 status] ∧ Blk ((w.alloc (.cells #[.int .i64 6, .int .i64 size, .int .i64 dg, .int .i64 left, .string B, .string L, .int .i64 lines, .int .i64 status] 36)).alloc (.cells #[.int .i64 0, .int .i64 0, .int .i64 0, .int .i64 0, .string ⟨#[]⟩, .string ⟨#[]⟩, .int .i64 0, .int .i64 0] 36)) (w.heap.size + 1) 36 #[.int .i64 0, .int .i64 0, .int .i64 0, .int .i64 0, .string ⟨#[]⟩, .string ⟨#[]⟩, .int .i64 0, .int .i64 0]) := Lib.hid ⟨((Below.refl _ _).alloc (Nat.le_refl _) _).alloc (by simp) _, (Blk.new w 36 _).below ((Below.refl _ _).alloc (Nat.le_refl _) _) (by simp), FIN.out _ _⟩
  generalize digI b = d at *
  generalize (b.toNat : Int) = x at *
  subst h
  go_enter Tryz.func39, Tryz.ntmps39
  go_wp2_with fail
  (with_reducible refine (CD.out _).mono ?_); rintro e w' ⟨rfl, rfl⟩
  go_wp2_with fail
  (with_reducible refine (CC.out _).mono ?_); rintro e w2 ⟨rfl, g⟩
  obtain ⟨g0, hX, hZ⟩ := HX.out
  have hX := hX.below g hX.lt
  have hZ := hZ.below g hZ.lt
  have HX := Lib.hid (And.intro (g0.trans (g.mono g0.size)) (And.intro hX hZ))
  have z0 : w2.cell? ⟨w.heap.size + 1, 0, none⟩ = some (.int .i64 0) := hZ.cell 0
  have f0 : w2.frozen? ⟨w.heap.size + 1, 0, none⟩ = false := hZ.frozen 0
  have z1 : w2.cell? ⟨w.heap.size + 1, 1, none⟩ = some (.int .i64 0) := hZ.cell 1
  have f1 : w2.frozen? ⟨w.heap.size + 1, 1, none⟩ = false := hZ.frozen 1
  have z2 : w2.cell? ⟨w.heap.size + 1, 2, none⟩ = some (.int .i64 0) := hZ.cell 2
  have f2 : w2.frozen? ⟨w.heap.size + 1, 2, none⟩ = false := hZ.frozen 2
  have z3 : w2.cell? ⟨w.heap.size + 1, 3, none⟩ = some (.int .i64 0) := hZ.cell 3
  have f3 : w2.frozen? ⟨w.heap.size + 1, 3, none⟩ = false := hZ.frozen 3
  have z4 : w2.cell? ⟨w.heap.size + 1, 4, none⟩ = some (.string ⟨#[]⟩) := hZ.cell 4
  have f4 : w2.frozen? ⟨w.heap.size + 1, 4, none⟩ = false := hZ.frozen 4
  have z5 : w2.cell? ⟨w.heap.size + 1, 5, none⟩ = some (.string ⟨#[]⟩) := hZ.cell 5
  have f5 : w2.frozen? ⟨w.heap.size + 1, 5, none⟩ = false := hZ.frozen 5
  have z6 : w2.cell? ⟨w.heap.size + 1, 6, none⟩ = some (.int .i64 0) := hZ.cell 6
  have f6 : w2.frozen? ⟨w.heap.size + 1, 6, none⟩ = false := hZ.frozen 6
  have z7 : w2.cell? ⟨w.heap.size + 1, 7, none⟩ = some (.int .i64 0) := hZ.cell 7
  have f7 : w2.frozen? ⟨w.heap.size + 1, 7, none⟩ = false := hZ.frozen 7
  clear g0 g hX hZ
  go_wp2_with fail
  obtain ⟨g0, -, hz⟩ := HX.out
  have b := ((((((((hz.set_ 0 (.int .i64 y0)).set_ 1 (.int .i64 y1)).set_ 2 (.int .i64 y2)).set_ 3 (.int .i64 y3)).set_ 4 (.string y4)).set_ 5 (.string y5)).set_ 6 (.int .i64 y6)).set_ 7 (.int .i64 y7))
  have e : (((((((((#[.int .i64 0, .int .i64 0, .int .i64 0, .int .i64 0, .string ⟨#[]⟩, .string ⟨#[]⟩, .int .i64 0, .int .i64 0] : Array Value)).setIfInBounds 0 (.int .i64 y0)).setIfInBounds 1 (.int .i64 y1)).setIfInBounds 2 (.int .i64 y2)).setIfInBounds 3 (.int .i64 y3)).setIfInBounds 4 (.string y4)).setIfInBounds 5 (.string y5)).setIfInBounds 6 (.int .i64 y6)).setIfInBounds 7 (.int .i64 y7) = #[.int .i64 y0, .int .i64 y1, .int .i64 y2, .int .i64 y3, .string y4, .string y5, .int .i64 y6, .int .i64 y7] := by simp
  rw [e] at b
  refine bodyPost_ret (results_cell_row (p := 4) (ty := 36) (by kernel_rfl) _ _ (w.heap.size + 1) 36 #[.int .i64 y0, .int .i64 y1, .int .i64 y2, .int .i64 y3, .string y4, .string y5, .int .i64 y6, .int .i64 y7] (0, 0) _ rfl b Tryz.underlying36 rfl (by kernel_rfl)) rfl ?_
  exact ⟨rfl, ((((((((g0.setCell (by simp) _).setCell (by simp) _).setCell (by simp) _).setCell (by simp) _).setCell (by simp) _).setCell (by simp) _).setCell (by simp) _).setCell (by simp) _)⟩
set_option maxRecDepth 100000 in
set_option maxHeartbeats 8000000 in
theorem sBad6 (size dg left : Int) (B L : ByteArray) (lines status : Int) (y0 y1 y2 y3 : Int) (y4 y5 : ByteArray) (y6 y7 : Int) (b : UInt8) (w : World) (h : ¬ (b.toNat : Int) = 10) (hC : ∀ w : World, Calls Tryz.prog 50 #[.agg (ckA 6 size dg left B L lines status), .int .i64 400] w fun e w' => e = .returned (.agg (ckA y0 y1 y2 y3 y4 y5 y6 y7)) ∧ Below w.heap.size w w') : Calls Tryz.prog 39 #[.agg (ckA 6 size dg left B L lines status), .int .u8 (b.toNat : Int)] w fun e w' => e = .returned (.agg (ckA y0 y1 y2 y3 y4 y5 y6 y7)) ∧ Below w.heap.size w w' := by
  have CD := Lib.hid (fun w => rDigit b w)
  unfold ckA at hC ⊢
  have CC := Lib.hid hC
  clear hC
  have fin : ∀ (c0 c : Array Value), Blk ((w.alloc (.cells c0 36)).alloc (.cells c 36)) (w.heap.size + 1) 36 c := fun c0 c => by
    have hb := Blk.new (w.alloc (.cells c0 36)) 36 c
    rw [World.size_alloc] at hb
    exact hb
  have FIN := Lib.hid fin
  clear fin
  have h2 : Below w.heap.size w ((w.alloc (.cells #[.int .i64 6, .int .i64 size, .int .i64 dg, .int .i64 left, .string B, .string L, .int .i64 lines, .int .i64 status] 36)).alloc (.cells #[.int .i64 0, .int .i64 0, .int .i64 0, .int .i64 0, .string ⟨#[]⟩, .string ⟨#[]⟩, .int .i64 0, .int .i64 0] 36)) := ((Below.refl _ _).alloc (Nat.le_refl _) _).alloc (by simp) _
  have H2 := Lib.hid h2
  clear h2
  have HX : Hid (Below w.heap.size w ((w.alloc (.cells #[.int .i64 6, .int .i64 size, .int .i64 dg, .int .i64 left, .string B, .string L, .int .i64 lines, .int .i64 status] 36)).alloc (.cells #[.int .i64 0, .int .i64 0, .int .i64 0, .int .i64 0, .string ⟨#[]⟩, .string ⟨#[]⟩, .int .i64 0, .int .i64 0] 36)) ∧ Blk ((w.alloc (.cells #[.int .i64 6, .int .i64 size, .int .i64 dg, .int .i64 left, .string B, .string L, .int .i64 lines, .int .i64 status] 36)).alloc (.cells #[.int .i64 0, .int .i64 0, .int .i64 0, .int .i64 0, .string ⟨#[]⟩, .string ⟨#[]⟩, .int .i64 0, .int .i64 0] 36)) w.heap.size 36 #[.int .i64 6, .int .i64 size, .int .i64 dg, .int .i64 left, .string B, .string L, .int .i64 lines, .int .i64 status] ∧ Blk ((w.alloc (.cells #[.int .i64 6, .int .i64 size, .int .i64 dg, .int .i64 left, .string B, .string L, .int .i64 lines, .int .i64 status] 36)).alloc (.cells #[.int .i64 0, .int .i64 0, .int .i64 0, .int .i64 0, .string ⟨#[]⟩, .string ⟨#[]⟩, .int .i64 0, .int .i64 0] 36)) (w.heap.size + 1) 36 #[.int .i64 0, .int .i64 0, .int .i64 0, .int .i64 0, .string ⟨#[]⟩, .string ⟨#[]⟩, .int .i64 0, .int .i64 0]) := Lib.hid ⟨((Below.refl _ _).alloc (Nat.le_refl _) _).alloc (by simp) _, (Blk.new w 36 _).below ((Below.refl _ _).alloc (Nat.le_refl _) _) (by simp), FIN.out _ _⟩
  generalize digI b = d at *
  generalize (b.toNat : Int) = x at *
  have e1 : (x == 10) = false := by rw [beq_eq_false_iff_ne]; exact h
  go_enter Tryz.func39, Tryz.ntmps39
  go_wp2_with fail
  (with_reducible refine (CD.out _).mono ?_); rintro e w' ⟨rfl, rfl⟩
  go_wp2_with fail
  (with_reducible refine (CC.out _).mono ?_); rintro e w2 ⟨rfl, g⟩
  obtain ⟨g0, hX, hZ⟩ := HX.out
  have hX := hX.below g hX.lt
  have hZ := hZ.below g hZ.lt
  have HX := Lib.hid (And.intro (g0.trans (g.mono g0.size)) (And.intro hX hZ))
  have z0 : w2.cell? ⟨w.heap.size + 1, 0, none⟩ = some (.int .i64 0) := hZ.cell 0
  have f0 : w2.frozen? ⟨w.heap.size + 1, 0, none⟩ = false := hZ.frozen 0
  have z1 : w2.cell? ⟨w.heap.size + 1, 1, none⟩ = some (.int .i64 0) := hZ.cell 1
  have f1 : w2.frozen? ⟨w.heap.size + 1, 1, none⟩ = false := hZ.frozen 1
  have z2 : w2.cell? ⟨w.heap.size + 1, 2, none⟩ = some (.int .i64 0) := hZ.cell 2
  have f2 : w2.frozen? ⟨w.heap.size + 1, 2, none⟩ = false := hZ.frozen 2
  have z3 : w2.cell? ⟨w.heap.size + 1, 3, none⟩ = some (.int .i64 0) := hZ.cell 3
  have f3 : w2.frozen? ⟨w.heap.size + 1, 3, none⟩ = false := hZ.frozen 3
  have z4 : w2.cell? ⟨w.heap.size + 1, 4, none⟩ = some (.string ⟨#[]⟩) := hZ.cell 4
  have f4 : w2.frozen? ⟨w.heap.size + 1, 4, none⟩ = false := hZ.frozen 4
  have z5 : w2.cell? ⟨w.heap.size + 1, 5, none⟩ = some (.string ⟨#[]⟩) := hZ.cell 5
  have f5 : w2.frozen? ⟨w.heap.size + 1, 5, none⟩ = false := hZ.frozen 5
  have z6 : w2.cell? ⟨w.heap.size + 1, 6, none⟩ = some (.int .i64 0) := hZ.cell 6
  have f6 : w2.frozen? ⟨w.heap.size + 1, 6, none⟩ = false := hZ.frozen 6
  have z7 : w2.cell? ⟨w.heap.size + 1, 7, none⟩ = some (.int .i64 0) := hZ.cell 7
  have f7 : w2.frozen? ⟨w.heap.size + 1, 7, none⟩ = false := hZ.frozen 7
  clear g0 g hX hZ
  go_wp2_with fail
  obtain ⟨g0, -, hz⟩ := HX.out
  have b := ((((((((hz.set_ 0 (.int .i64 y0)).set_ 1 (.int .i64 y1)).set_ 2 (.int .i64 y2)).set_ 3 (.int .i64 y3)).set_ 4 (.string y4)).set_ 5 (.string y5)).set_ 6 (.int .i64 y6)).set_ 7 (.int .i64 y7))
  have e : (((((((((#[.int .i64 0, .int .i64 0, .int .i64 0, .int .i64 0, .string ⟨#[]⟩, .string ⟨#[]⟩, .int .i64 0, .int .i64 0] : Array Value)).setIfInBounds 0 (.int .i64 y0)).setIfInBounds 1 (.int .i64 y1)).setIfInBounds 2 (.int .i64 y2)).setIfInBounds 3 (.int .i64 y3)).setIfInBounds 4 (.string y4)).setIfInBounds 5 (.string y5)).setIfInBounds 6 (.int .i64 y6)).setIfInBounds 7 (.int .i64 y7) = #[.int .i64 y0, .int .i64 y1, .int .i64 y2, .int .i64 y3, .string y4, .string y5, .int .i64 y6, .int .i64 y7] := by simp
  rw [e] at b
  refine bodyPost_ret (results_cell_row (p := 4) (ty := 36) (by kernel_rfl) _ _ (w.heap.size + 1) 36 #[.int .i64 y0, .int .i64 y1, .int .i64 y2, .int .i64 y3, .string y4, .string y5, .int .i64 y6, .int .i64 y7] (0, 0) _ rfl b Tryz.underlying36 rfl (by kernel_rfl)) rfl ?_
  exact ⟨rfl, ((((((((g0.setCell (by simp) _).setCell (by simp) _).setCell (by simp) _).setCell (by simp) _).setCell (by simp) _).setCell (by simp) _).setCell (by simp) _).setCell (by simp) _)⟩
end Go.Proofs.YtkbihipgnlglbaaGreatDoor
