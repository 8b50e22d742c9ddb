/-
  Connections and their states: Check and fits, of the program and of the reference.
-/
import Derived.Test.YtepemdmjbfoiaaaDoorProg
import Derived.Test.YtepemdmjbfoiaaaDoorBase
import Derived.Outline
import Derived.BigQuiet
import Derived.Deep.QuietTactic
namespace Go.Proofs.YtepemdmjbfoiaaaDoor
open Go.RowKit

/-- the error of a connection -/
def chkL (s : Int) (a : Bool) (n c : Int) : Nat :=
  if s < 1 ∨ 3 < s then 9 else if n < 0 ∨ 1000000 < n then 2 else if (n = 0 ∧ c ≠ 0) ∨ (0 < n ∧ (c < 100 ∨ 599 < c)) then 2 else if a = true ∧ s ≠ 2 then 3 else 0
/-- the error of an event by itself -/
def fitL (k cd : Int) (cl : Bool) : Nat :=
  if k < 1 ∨ 4 < k then 10 else if (k = 2 ∧ (cd < 400 ∨ 599 < cd)) ∨ (k = 3 ∧ (cd < 100 ∨ 599 < cd)) ∨ ((k = 1 ∨ k = 4) ∧ cd ≠ 0) then 2 else if cl = true ∧ (k = 2 ∨ k = 4) then 3 else 0
def linkV (s : Int) (a : Bool) (n c : Int) : Value := .agg #[.int .i64 s, .bool a, .int .i64 n, .int .i64 c]
def evV (k cd : Int) (cl : Bool) : Value := .agg #[.int .i64 k, .int .i64 cd, .bool cl]

set_option maxRecDepth 100000 in
set_option maxHeartbeats 4000000 in
theorem pCheck (s : Int) (a : Bool) (n c : Int) (w : World) :
    Calls Tryd.prog 86 #[linkV s a n c] w fun e w' => e = .returned (.int .i64 (chkL s a n c)) ∧ Below w.heap.size w w' := by
  obtain ⟨V, hV⟩ : ∃ V, chkL s a n c = V := ⟨_, rfl⟩
  rw [hV]
  unfold linkV
  go_enter Tryd.func86, Tryd.ntmps86
  go_wp2_with fail
  all_goals (
    go_ret
    refine ⟨?_, (Below.refl _ _).alloc (Nat.le_refl _) _⟩
    rw [← hV]
    clear hV
    unfold chkL
    simp only [bne_iff_ne, ne_eq, bne_eq_false_iff_eq, Bool.not_eq_true] at *
    repeat' split
    all_goals first | rfl | (exfalso; omega) | (exfalso; simp_all; done) | (exfalso; simp_all; omega))

set_option maxRecDepth 100000 in
set_option maxHeartbeats 4000000 in
theorem rCheck13 (s : Int) (a : Bool) (n c : Int) (w : World) :
    Calls Tryd.prog 93 #[linkV s a n c] w fun e w' => e = .returned (.int .i64 (chkL s a n c)) ∧ Below w.heap.size w w' := by
  obtain ⟨V, hV⟩ : ∃ V, chkL s a n c = V := ⟨_, rfl⟩
  rw [hV]
  unfold linkV
  go_enter Tryd.func93, Tryd.ntmps93
  go_wp2_with fail
  all_goals (
    go_ret
    refine ⟨?_, (Below.refl _ _).alloc (Nat.le_refl _) _⟩
    rw [← hV]
    clear hV
    unfold chkL
    simp only [bne_iff_ne, ne_eq, bne_eq_false_iff_eq, Bool.not_eq_true] at *
    repeat' split
    all_goals first | rfl | (exfalso; omega) | (exfalso; simp_all; done) | (exfalso; simp_all; omega))

set_option maxRecDepth 100000 in
set_option maxHeartbeats 4000000 in
theorem pFits (k cd : Int) (cl : Bool) (w : World) :
    Calls Tryd.prog 125 #[evV k cd cl] w fun e w' => e = .returned (.int .i64 (fitL k cd cl)) ∧ Below w.heap.size w w' := by
  obtain ⟨V, hV⟩ : ∃ V, fitL k cd cl = V := ⟨_, rfl⟩
  rw [hV]
  unfold evV
  go_enter Tryd.func125, Tryd.ntmps125
  go_wp2_with fail
  all_goals (
    go_ret
    refine ⟨?_, (Below.refl _ _).alloc (Nat.le_refl _) _⟩
    rw [← hV]
    clear hV
    unfold fitL
    simp only [beq_iff_eq, ne_eq, Bool.not_eq_true] at *
    repeat' split
    all_goals first | rfl | (exfalso; omega) | (exfalso; simp_all; done) | (exfalso; simp_all; omega))

set_option maxRecDepth 100000 in
set_option maxHeartbeats 4000000 in
theorem rFits (k cd : Int) (cl : Bool) (w : World) :
    Calls Tryd.prog 130 #[evV k cd cl] w fun e w' => e = .returned (.int .i64 (fitL k cd cl)) ∧ Below w.heap.size w w' := by
  obtain ⟨V, hV⟩ : ∃ V, fitL k cd cl = V := ⟨_, rfl⟩
  rw [hV]
  unfold evV
  go_enter Tryd.func130, Tryd.ntmps130
  go_wp2_with fail
  all_goals (
    go_ret
    refine ⟨?_, (Below.refl _ _).alloc (Nat.le_refl _) _⟩
    rw [← hV]
    clear hV
    unfold fitL
    simp only [beq_iff_eq, ne_eq, Bool.not_eq_true] at *
    repeat' split
    all_goals first | rfl | (exfalso; omega) | (exfalso; simp_all; done) | (exfalso; simp_all; omega))
end Go.Proofs.YtepemdmjbfoiaaaDoor
