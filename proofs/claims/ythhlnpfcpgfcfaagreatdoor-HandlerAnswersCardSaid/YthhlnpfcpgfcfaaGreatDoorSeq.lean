/-
  The contracts of strings.SplitSeq at a separator of one byte, and of the iterator that it hands back.
-/
import Derived.Test.YthhlnpfcpgfcfaaGreatDoorRf
import Derived.Test.YthhlnpfcpgfcfaaGreatDoorLst
import Derived.RangeFuncNested
import Derived.RangeFuncBound
import Derived.RangeFuncCalls
import Derived.RangeFuncLeaves
import Derived.Shelf.Abstract
import Derived.Shelf.RegionOpen
import Derived.OwnWalkIn
import Derived.TacticsInMore
import Derived.LoopNIn
import Derived.LoopIn
namespace Go.Proofs.YthhlnpfcpgfcfaaGreatDoor
open Go.RowKit Go.Shelf
attribute [local go_sem] Oper.semAt_some

theorem tw_all (p : UInt8 → Bool) (l : List UInt8) : ∀ b ∈ l.takeWhile p, p b = true := by
  induction l with
  | nil => simp
  | cons a l ih =>
    intro b hb
    rw [List.takeWhile_cons] at hb
    split at hb
    · rcases List.mem_cons.1 hb with rfl | hb
      · assumption
      · exact ih b hb
    · simp at hb
theorem split_miss (c : UInt8) (l : List UInt8) (h : cutB c l = (l, [], false)) : splitC c l = [l] := by
  refine split_none c l fun b hb => ?_
  have h1 : l.takeWhile (· != c) = l := congrArg Prod.fst h
  rw [← h1] at hb
  simpa using tw_all _ _ b hb
theorem split_hit (c : UInt8) (l a r : List UInt8) (e : l = a ++ c :: r) (h : cutB c l = (a, r, true)) : splitC c l = a :: splitC c r := by
  rw [e]
  refine split_at c a r fun b hb => ?_
  have h1 : l.takeWhile (· != c) = a := congrArg Prod.fst h
  rw [← h1] at hb
  simpa using tw_all _ _ b hb

/-- the three boxes of the iterator: the rest, the separator, how much of it is kept -/
def splitG (Bs : Nat) (s : ByteArray) (c : UInt8) (W : World) : Prop :=
  Boxed W Bs 9 (.string s) ∧ Boxed W (Bs + 1) 9 (.string ⟨#[c]⟩) ∧ Boxed W (Bs + 2) 3 (.int .i64 0)
/-- the iterator's own steps turn the box of the rest alone -/
def splitSt (Bs : Nat) (A B : World) : Prop := A.grownBy B (some Bs) ∧ KeepsOthers A B
/-- a round keeps the three boxes -/
def splitKp (Bs : Nat) (A B : World) : Prop := ∀ b, Bs ≤ b → b < Bs + 3 → ∀ o, A.heap[b]? = some o → B.heap[b]? = some o
def boxLen (Bs : Nat) (W : World) : Nat := match W.cell? ⟨Bs, 0, none⟩ with | some (.string u) => u.size | _ => 0
theorem splitKp_below {Bs : Nat} {W W' : World} (h : Below W.heap.size W W') : splitKp Bs W W' := fun b _ _ _ ho => (h.block b (Array.getElem?_eq_some_iff.1 ho).1).trans ho
theorem splitKp_set {Bs : Nat} (W : World) (p : Nat) (v : Value) (hp : p < Bs) : splitKp Bs W (W.setCell ⟨p, 0, none⟩ v) := fun b hb _ _ ho => (Below.heap_setCell _ _ _ b (by simp only; omega)).trans ho
theorem splitKp_grown {Bs : Nat} {W W' : World} {row : Option Nat} (h : W.grownBy W' row) (hr : ∀ g, row = some g → Bs + 3 ≤ g) : splitKp Bs W W' :=
  fun b _ hb _ ho => (h.block b (Array.getElem?_eq_some_iff.1 ho).1 (fun e => by have := hr b e.symm; omega)).trans ho
theorem splitKp_trans {Bs : Nat} {A B C : World} (h : splitKp Bs A B) (k : splitKp Bs B C) : splitKp Bs A C := fun b h1 h2 o ho => k b h1 h2 o (h b h1 h2 o ho)
theorem splitKp_put {Bs : Nat} (W : World) (l : Nat) (o : Obj) (hl : Bs + 3 ≤ l) : splitKp Bs W (W.putObj l o) := fun b _ hb _ ho => (World.putObj_heap_other (by omega)).trans ho
theorem splitG_alloc {Bs : Nat} {s : ByteArray} {c : UInt8} (W : World) (o : Obj) (h : splitG Bs s c W) : splitG Bs s c (W.alloc o) := ⟨h.1.alloc _, h.2.1.alloc _, h.2.2.alloc _⟩
theorem boxLen_eq {Bs : Nat} {W : World} {t : TypeId} {u : ByteArray} (h : Boxed W Bs t (.string u)) : boxLen Bs W = u.size := by
  unfold boxLen; rw [h.cell]

end Go.Proofs.YthhlnpfcpgfcfaaGreatDoor
