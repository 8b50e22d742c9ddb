/-
  The contract of package token's List: the early ways, and the words for the loop.
-/
import Derived.Test.YtepemdmjbfoiaaaDoorSeq
namespace Go.Proofs.YtepemdmjbfoiaaaDoor
open Go.RowKit Go.Shelf
attribute [local go_sem] Oper.semAt_some

/-- a list of texts handed back, and an error -/
def ListPost (t : List (List UInt8) × Nat) (w : World) (e : Ending) (w' : World) : Prop :=
  ∃ A cap, e = .returned (.tuple #[.slice A t.1.length cap, .int .i64 t.2]) ∧ Reads w' w'.heap.size 1 A t.1.length (strs t.1) ∧ Below w.heap.size w w'

theorem TList_long (s : ByteArray) (w : World) (hs : s.size ≤ 1000000) (h : 1024 < s.size) :
    Calls Tryd.prog 23 #[.string s] w (ListPost (listT s.data.toList) w) := by
  have e : listT s.data.toList = ([], 4) := by unfold listT; rw [size_l, if_pos h]
  rw [e]
  have hd : decide ((1024 : Int) < (s.size : Int)) = true := by simp; omega
  clear e
  go_enter Tryd.func23, Tryd.ntmps23
  go_wp2_with fail
  go_step3
  go_wp2_with fail
  refine bodyPost_ret (v := .tuple #[.slice none 0 0, .int .i64 4]) (by simp [results, Tryd.f23, go_sem]) rfl ?_
  refine ⟨none, 0, rfl, Reads.none_, ?_⟩
  exact ((Below.refl _ _).alloc (Nat.le_refl _) _).alloc (by simp) _
theorem TList_form (s : ByteArray) (w : World) (hs : s.size ≤ 1024) (h : isVal s.data.toList = false) :
    Calls Tryd.prog 23 #[.string s] w (ListPost (listT s.data.toList) w) := by
  have e : listT s.data.toList = ([], 3) := by unfold listT; rw [size_l, if_neg (by omega), if_pos h]
  rw [e]
  have hd : decide ((1024 : Int) < (s.size : Int)) = false := by simp; omega
  have cV := fun w => TValue_any s w (by omega)
  rw [h] at cV
  have CV := Lib.hid cV
  have n0 := Boxed.new w 24 (.slice none 0 0)
  have n1 := Boxed.new (w.alloc (.cells #[.slice none 0 0] 24)) 26 (.int .i64 0)
  rw [World.size_alloc] at n1
  have n0' := n0.alloc (.cells #[.int .i64 0] 26)
  have HN := Lib.hid (And.intro n0' n1)
  clear e cV h n0 n1 n0'
  go_enter Tryd.func23, Tryd.ntmps23
  go_wp2_with fail
  go_step3
  go_wp2_with fail
  (with_reducible refine (CV.out _).mono ?_); rintro e w1 ⟨rfl, hb1⟩
  obtain ⟨n0, n1⟩ := HN.out
  have m0 : Boxed w1 w.heap.size 24 (.slice none 0 0) := (hb1.block _ (by simp; omega)).trans n0
  have m1 : Boxed w1 (w.heap.size + 1) 26 (.int .i64 0) := (hb1.block _ (by simp)).trans n1
  have c0 := m0.cell
  have f0 := m0.frozen
  have c1 := m1.cell
  have f1 := m1.frozen
  have q0 := (m0.set (.slice none 0 0)).cell
  have q1 := ((m1.kept (grownBy_setCell' w1 w.heap.size (.slice none 0 0)) (by simp)).set (.int .i64 3)).cell
  have Q0 := Lib.hid q0
  have Q1 := Lib.hid q1
  clear q0 q1
  go_wp2_with fail
  refine bodyPost_ret (v := .tuple #[.slice none 0 0, .int .i64 3]) (by simp [results, Tryd.f23, go_sem, Q0.out, Q1.out]) rfl ?_
  refine ⟨none, 0, rfl, Reads.none_, ?_⟩
  exact ((((((Below.refl _ _).alloc (Nat.le_refl _) _).alloc (by simp) _).trans (hb1.mono (by simp; omega))).setCell (by simp) _).setCell (by simp) _)
end Go.Proofs.YtepemdmjbfoiaaaDoor
