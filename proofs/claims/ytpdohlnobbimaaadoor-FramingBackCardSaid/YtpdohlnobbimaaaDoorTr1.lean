/-
  The reference of tokens (waypostref05): of, Is.
-/
import Derived.Test.YtpdohlnobbimaaaDoorTk5
namespace Go.Proofs.YtpdohlnobbimaaaDoor
open Go.RowKit

def oth : ByteArray := ⟨#[33, 35, 36, 37, 38, 39, 42, 43, 45, 46, 94, 95, 96, 124, 126]⟩
theorem oth_list : oth.data.toList = tokO := rfl
theorem tok_iff (n : Nat) : tokP n = (decide (48 ≤ n ∧ n ≤ 57 ∨ 65 ≤ n ∧ n ≤ 90 ∨ 97 ≤ n ∧ n ≤ 122) || inB tokO n) := by
  simp only [tokP, anyP, inR, tokR, List.any_cons, List.any_nil, Bool.or_false]
  congr 1
  simp only [Bool.decide_or]
theorem inB_take (l : List UInt8) (k : Nat) (hk : k < l.length) (n : Nat) : inB (l.take (k + 1)) n = (inB (l.take k) n || decide (n = l[k].toNat)) := by
  rw [List.take_succ_eq_append_getElem hk, inB_snoc]
theorem inB_mem (l : List UInt8) (k : Nat) (hk : k < l.length) (n : Nat) (h : n = l[k].toNat) : inB l n = true := by
  simp only [inB, List.any_eq_true]; exact ⟨l[k], List.getElem_mem hk, by simp [h]⟩

theorem isTok_iff (s : ByteArray) : isTok s.data.toList = (!(s.data.toList.isEmpty) && s.data.toList.all tokB) := rfl
theorem all_snoc_false (l : List UInt8) (k : Nat) (hk : k < l.length) (p : UInt8 → Bool) (h : p l[k] = false) : l.all p = false := by
  rw [List.all_eq_false]; exact ⟨l[k], List.getElem_mem hk, by simp [h]⟩

end Go.Proofs.YtpdohlnobbimaaaDoor
