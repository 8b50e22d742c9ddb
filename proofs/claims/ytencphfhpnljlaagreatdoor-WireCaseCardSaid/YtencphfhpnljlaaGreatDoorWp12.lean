/-
  wire: a new parser is a valid one.
-/
import Derived.Test.YtencphfhpnljlaaGreatDoorWp5
import Derived.Laws.StructEq
import Derived.BigQuiet
import Derived.Deep.QuietTactic
namespace Go.Proofs.YtencphfhpnljlaaGreatDoor
open Go.RowKit

def newV : Value := .agg #[.int .i64 1, .string ⟨#[]⟩, .string ⟨#[]⟩, .string ⟨#[]⟩, .slice none 0 0, .string ⟨#[]⟩, .int .i64 0, .int .i64 0, .int .i64 0, .int .i64 0, .int .i64 0, .string ⟨#[]⟩, .string ⟨#[]⟩, .int .i64 0, .int .i64 0]
set_option maxRecDepth 100000 in
set_option maxHeartbeats 8000000 in
theorem pBegunNew (w : World) (hM : MaxL w) : Calls Tryz.prog 70 #[newV] w fun e w' => e = .returned (.bool true) ∧ Below w.heap.size w w' := by
  have b0 : Below w.heap.size w (w.alloc (.cells #[.int .i64 1, .string ⟨#[]⟩, .string ⟨#[]⟩, .string ⟨#[]⟩, .slice none 0 0, .string ⟨#[]⟩, .int .i64 0, .int .i64 0, .int .i64 0, .int .i64 0, .int .i64 0, .string ⟨#[]⟩, .string ⟨#[]⟩, .int .i64 0, .int .i64 0] 34)) := (Below.refl _ _).alloc (Nat.le_refl _) _
  have k0 := Blk.new w 34 #[.int .i64 1, .string ⟨#[]⟩, .string ⟨#[]⟩, .string ⟨#[]⟩, .slice none 0 0, .string ⟨#[]⟩, .int .i64 0, .int .i64 0, .int .i64 0, .int .i64 0, .int .i64 0, .string ⟨#[]⟩, .string ⟨#[]⟩, .int .i64 0, .int .i64 0]
  unfold newV
  obtain ⟨W1, hW1⟩ : ∃ W1, (w.alloc (.cells #[.int .i64 1, .string ⟨#[]⟩, .string ⟨#[]⟩, .string ⟨#[]⟩, .slice none 0 0, .string ⟨#[]⟩, .int .i64 0, .int .i64 0, .int .i64 0, .int .i64 0, .int .i64 0, .string ⟨#[]⟩, .string ⟨#[]⟩, .int .i64 0, .int .i64 0] 34)) = W1 := ⟨_, rfl⟩
  rw [hW1] at b0 k0
  have z0 : W1.cell? ⟨w.heap.size, 0, none⟩ = some (.int .i64 1) := k0.cell 0
  have z1 : W1.cell? ⟨w.heap.size, 1, none⟩ = some (.string ⟨#[]⟩) := k0.cell 1
  have CC := Lib.hid (Tryz.strings_Contains_one ⟨#[]⟩ 10 W1)
  have CB := Lib.hid (show ∀ X, Calls Tryz.prog 74 #[.string ⟨#[]⟩] X fun e w' => e = .returned (.string ⟨#[]⟩) ∧ w' = X from fun X => pBare [] X (by simp))
  have CL := Lib.hid (show ∀ X, MaxL X → Calls Tryz.prog 73 #[.string ⟨#[]⟩] X fun e w' => ∃ r : Int, e = .returned (.tuple #[.int .i64 0, .int .i64 r]) ∧ Below X.heap.size X w' from fun X hX => pLong [] X (by simp) hX)
  have HB := Lib.hid b0
  have HL := Lib.hid (CL.out W1 (hM.below b0))
  clear b0 k0 hM
  go_enter Tryz.func70, Tryz.ntmps70
  go_wp2_with fail
  (with_reducible refine (CC.out).mono ?_); rintro e w2 ⟨rfl, rfl⟩
  rename World => W1
  go_wp2_with fail
  (with_reducible refine (CB.out _).mono ?_); rintro e w2 ⟨rfl, rfl⟩
  rename World => W1
  go_wp2_with fail
  (with_reducible refine (HL.out).mono ?_); rintro e w2 ⟨r, rfl, g2⟩
  go_wp2_with fail
  go_ret
  exact ⟨rfl, HB.out.trans (g2.mono HB.out.size)⟩
set_option maxRecDepth 100000 in
set_option maxHeartbeats 8000000 in
theorem pHasNew (w : World) (hM : MaxL w) : Calls Tryz.prog 46 #[newV] w fun e w' => e = .returned (.bool true) ∧ Below w.heap.size w w' := by
  have b0 : Below w.heap.size w (w.alloc (.cells #[.int .i64 1, .string ⟨#[]⟩, .string ⟨#[]⟩, .string ⟨#[]⟩, .slice none 0 0, .string ⟨#[]⟩, .int .i64 0, .int .i64 0, .int .i64 0, .int .i64 0, .int .i64 0, .string ⟨#[]⟩, .string ⟨#[]⟩, .int .i64 0, .int .i64 0] 34)) := (Below.refl _ _).alloc (Nat.le_refl _) _
  have k0 := Blk.new w 34 #[.int .i64 1, .string ⟨#[]⟩, .string ⟨#[]⟩, .string ⟨#[]⟩, .slice none 0 0, .string ⟨#[]⟩, .int .i64 0, .int .i64 0, .int .i64 0, .int .i64 0, .int .i64 0, .string ⟨#[]⟩, .string ⟨#[]⟩, .int .i64 0, .int .i64 0]
  have hx : newV = .agg #[.int .i64 1, .string ⟨#[]⟩, .string ⟨#[]⟩, .string ⟨#[]⟩, .slice none 0 0, .string ⟨#[]⟩, .int .i64 0, .int .i64 0, .int .i64 0, .int .i64 0, .int .i64 0, .string ⟨#[]⟩, .string ⟨#[]⟩, .int .i64 0, .int .i64 0] := rfl
  obtain ⟨W1, hW1⟩ : ∃ W1, (w.alloc (.cells #[.int .i64 1, .string ⟨#[]⟩, .string ⟨#[]⟩, .string ⟨#[]⟩, .slice none 0 0, .string ⟨#[]⟩, .int .i64 0, .int .i64 0, .int .i64 0, .int .i64 0, .int .i64 0, .string ⟨#[]⟩, .string ⟨#[]⟩, .int .i64 0, .int .i64 0] 34)) = W1 := ⟨_, rfl⟩
  rw [hW1] at b0 k0
  have z0 : W1.cell? ⟨w.heap.size, 0, none⟩ = some (.int .i64 1) := k0.cell 0
  have z1 : W1.cell? ⟨w.heap.size, 1, none⟩ = some (.string ⟨#[]⟩) := k0.cell 1
  have z2 : W1.cell? ⟨w.heap.size, 2, none⟩ = some (.string ⟨#[]⟩) := k0.cell 2
  have z3 : W1.cell? ⟨w.heap.size, 3, none⟩ = some (.string ⟨#[]⟩) := k0.cell 3
  have z4 : W1.cell? ⟨w.heap.size, 4, none⟩ = some (.slice none 0 0) := k0.cell 4
  have z5 : W1.cell? ⟨w.heap.size, 5, none⟩ = some (.string ⟨#[]⟩) := k0.cell 5
  have z6 : W1.cell? ⟨w.heap.size, 6, none⟩ = some (.int .i64 0) := k0.cell 6
  have z7 : W1.cell? ⟨w.heap.size, 7, none⟩ = some (.int .i64 0) := k0.cell 7
  have z8 : W1.cell? ⟨w.heap.size, 8, none⟩ = some (.int .i64 0) := k0.cell 8
  have z9 : W1.cell? ⟨w.heap.size, 9, none⟩ = some (.int .i64 0) := k0.cell 9
  have z10 : W1.cell? ⟨w.heap.size, 10, none⟩ = some (.int .i64 0) := k0.cell 10
  have z11 : W1.cell? ⟨w.heap.size, 11, none⟩ = some (.string ⟨#[]⟩) := k0.cell 11
  have z12 : W1.cell? ⟨w.heap.size, 12, none⟩ = some (.string ⟨#[]⟩) := k0.cell 12
  have z13 : W1.cell? ⟨w.heap.size, 13, none⟩ = some (.int .i64 0) := k0.cell 13
  have z14 : W1.cell? ⟨w.heap.size, 14, none⟩ = some (.int .i64 0) := k0.cell 14
  have q24 : ∀ w, (binOp .neq 24 (.agg #[.string ⟨#[]⟩, .string ⟨#[]⟩]) (.agg #[.string ⟨#[]⟩, .string ⟨#[]⟩])).run Tryz.prog w = .ok (.bool false) w := fun _ => by kernel_rfl
  have q32 : ∀ w, (binOp .neq 32 (.agg #[.int .i64 0, .int .i64 0, .int .i64 0, .int .i64 0, .string ⟨#[]⟩, .string ⟨#[]⟩, .int .i64 0, .int .i64 0]) (.agg #[.int .i64 0, .int .i64 0, .int .i64 0, .int .i64 0, .string ⟨#[]⟩, .string ⟨#[]⟩, .int .i64 0, .int .i64 0])).run Tryz.prog w = .ok (.bool false) w := fun _ => by kernel_rfl
  have HB := Lib.hid b0
  have CB := Lib.hid (fun X (hX : Below w.heap.size w X) => pBegunNew X (hM.below hX))
  have d0 : decide ((0 : Int) < 0) = false := by decide
  rw [hx] at CB ⊢
  clear b0 k0 hM hx
  go_enter Tryz.func46, Tryz.ntmps46
  go_wp2_with fail
  go_quiet (fail)
  go_wp2_with fail
  (with_reducible refine (CB.out _ (below_drewN HB.out _)).mono ?_); rintro e w2 ⟨rfl, g2⟩
  go_wp2_with fail
  go_ret
  exact ⟨rfl, (below_drewN HB.out _).trans (g2.mono HB.out.size)⟩
set_option maxRecDepth 100000 in
set_option maxHeartbeats 8000000 in
theorem pCheckNew (w : World) (hM : MaxL w) : Calls Tryz.prog 26 #[newV] w fun e w' => e = .returned (.int .i64 0) ∧ Below w.heap.size w w' := by
  have b0 : Below w.heap.size w (w.alloc (.cells #[.int .i64 1, .string ⟨#[]⟩, .string ⟨#[]⟩, .string ⟨#[]⟩, .slice none 0 0, .string ⟨#[]⟩, .int .i64 0, .int .i64 0, .int .i64 0, .int .i64 0, .int .i64 0, .string ⟨#[]⟩, .string ⟨#[]⟩, .int .i64 0, .int .i64 0] 34)) := (Below.refl _ _).alloc (Nat.le_refl _) _
  have k0 := Blk.new w 34 #[.int .i64 1, .string ⟨#[]⟩, .string ⟨#[]⟩, .string ⟨#[]⟩, .slice none 0 0, .string ⟨#[]⟩, .int .i64 0, .int .i64 0, .int .i64 0, .int .i64 0, .int .i64 0, .string ⟨#[]⟩, .string ⟨#[]⟩, .int .i64 0, .int .i64 0]
  have hx : newV = .agg #[.int .i64 1, .string ⟨#[]⟩, .string ⟨#[]⟩, .string ⟨#[]⟩, .slice none 0 0, .string ⟨#[]⟩, .int .i64 0, .int .i64 0, .int .i64 0, .int .i64 0, .int .i64 0, .string ⟨#[]⟩, .string ⟨#[]⟩, .int .i64 0, .int .i64 0] := rfl
  obtain ⟨W1, hW1⟩ : ∃ W1, (w.alloc (.cells #[.int .i64 1, .string ⟨#[]⟩, .string ⟨#[]⟩, .string ⟨#[]⟩, .slice none 0 0, .string ⟨#[]⟩, .int .i64 0, .int .i64 0, .int .i64 0, .int .i64 0, .int .i64 0, .string ⟨#[]⟩, .string ⟨#[]⟩, .int .i64 0, .int .i64 0] 34)) = W1 := ⟨_, rfl⟩
  rw [hW1] at b0 k0
  have z0 : W1.cell? ⟨w.heap.size, 0, none⟩ = some (.int .i64 1) := k0.cell 0
  have z1 : W1.cell? ⟨w.heap.size, 1, none⟩ = some (.string ⟨#[]⟩) := k0.cell 1
  have z2 : W1.cell? ⟨w.heap.size, 2, none⟩ = some (.string ⟨#[]⟩) := k0.cell 2
  have z3 : W1.cell? ⟨w.heap.size, 3, none⟩ = some (.string ⟨#[]⟩) := k0.cell 3
  have z4 : W1.cell? ⟨w.heap.size, 4, none⟩ = some (.slice none 0 0) := k0.cell 4
  have z5 : W1.cell? ⟨w.heap.size, 5, none⟩ = some (.string ⟨#[]⟩) := k0.cell 5
  have z6 : W1.cell? ⟨w.heap.size, 6, none⟩ = some (.int .i64 0) := k0.cell 6
  have z7 : W1.cell? ⟨w.heap.size, 7, none⟩ = some (.int .i64 0) := k0.cell 7
  have z8 : W1.cell? ⟨w.heap.size, 8, none⟩ = some (.int .i64 0) := k0.cell 8
  have z9 : W1.cell? ⟨w.heap.size, 9, none⟩ = some (.int .i64 0) := k0.cell 9
  have z10 : W1.cell? ⟨w.heap.size, 10, none⟩ = some (.int .i64 0) := k0.cell 10
  have z11 : W1.cell? ⟨w.heap.size, 11, none⟩ = some (.string ⟨#[]⟩) := k0.cell 11
  have z12 : W1.cell? ⟨w.heap.size, 12, none⟩ = some (.string ⟨#[]⟩) := k0.cell 12
  have z13 : W1.cell? ⟨w.heap.size, 13, none⟩ = some (.int .i64 0) := k0.cell 13
  have z14 : W1.cell? ⟨w.heap.size, 14, none⟩ = some (.int .i64 0) := k0.cell 14
  have HB := Lib.hid b0
  have CH := Lib.hid (pHasNew W1 (hM.below b0))
  rw [hx] at CH ⊢
  clear b0 k0 hM hx
  go_enter Tryz.func26, Tryz.ntmps26
  go_wp2_with fail
  (with_reducible refine (CH.out).mono ?_); rintro e w2 ⟨rfl, g2⟩
  go_wp2_with fail
  go_ret
  exact ⟨rfl, HB.out.trans (g2.mono HB.out.size)⟩
end Go.Proofs.YtencphfhpnljlaaGreatDoor
