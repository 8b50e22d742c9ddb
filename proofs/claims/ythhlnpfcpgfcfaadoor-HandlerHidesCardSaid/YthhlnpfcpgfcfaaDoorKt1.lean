/-
  The contracts of waypostkit on lists of texts: SameTexts.
-/
import Derived.Test.YthhlnpfcpgfcfaaDoorRd
import Derived.BigQuiet
import Derived.Deep.QuietTactic
namespace Go.Proofs.YthhlnpfcpgfcfaaDoor
open Go.RowKit

theorem ne_texts {x y : List UInt8} (h : x ≠ y) : ((bs x).toList == (bs y).toList) = false := by
  rw [Lib.toList_data, Lib.toList_data, bs_list, bs_list, beq_eq_false_iff_ne]; exact h
theorem eq_texts {x y : List UInt8} (h : x = y) : ((bs x).toList == (bs y).toList) = true := by
  subst h; simp
theorem beq_len {α : Type} [BEq α] [LawfulBEq α] {x y : List α} (h : x.length ≠ y.length) : (x == y) = false := by
  rw [beq_eq_false_iff_ne]; intro e; exact h (by rw [e])
theorem take_succ_eq {α : Type} {x y : List α} {k : Nat} (hx : k < x.length) (hy : k < y.length) (h : x.take k = y.take k) (e : x[k] = y[k]) : x.take (k + 1) = y.take (k + 1) := by
  rw [List.take_succ_eq_append_getElem hx, List.take_succ_eq_append_getElem hy, h, e]

/-- a list literal of texts, in its new block -/
theorem reads_new (w : World) (t : TypeId) (xs : List (List UInt8)) (cs : Array Value) (h : cs.toList = strs xs) : Reads (w.alloc (.cells cs t)) (w.alloc (.cells cs t)).heap.size 1 (some ⟨w.heap.size, 0, none⟩) xs.length (strs xs) := by
  refine ⟨by rw [strs_len, Nat.mul_one], fun _ => ⟨_, rfl, by simp, fun j u hu => ?_⟩⟩
  rw [Addr.add_lit, Nat.zero_add, (Blk.new w t cs).cell j]
  rw [← h] at hu
  simpa using hu
end Go.Proofs.YthhlnpfcpgfcfaaDoor
