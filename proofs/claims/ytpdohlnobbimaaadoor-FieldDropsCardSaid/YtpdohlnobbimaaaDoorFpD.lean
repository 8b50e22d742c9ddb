/-
  Drop at two names, in plain words.
-/
import Derived.Test.YtpdohlnobbimaaaDoorFpP
namespace Go.Proofs.YtpdohlnobbimaaaDoor
open Go.RowKit

theorem goneF_two (x y : List UInt8) (f : Fld) : goneF [x, y] f = (sameN x f || sameN y f) := by simp [goneF]
theorem dropL_two (x y : List UInt8) (l : List Fld) : dropL [x, y] l = dropL [y] (dropL [x] l) := by
  unfold dropL
  rw [List.filter_filter]
  congr 1
  funext f
  rw [goneF_two, goneF_one, goneF_one]
  cases sameN x f <;> cases sameN y f <;> rfl
theorem drop_none (x y : List UInt8) (l : List Fld) : (dropL [x, y] l).filter (sameN x) = [] := by
  rw [List.filter_eq_nil_iff]
  intro f hf
  unfold dropL at hf
  have := (List.mem_filter.1 hf).2
  rw [goneF_two] at this
  cases h : sameN x f
  · simp
  · rw [h] at this; simp at this
theorem drop_two_len (x y : List UInt8) (l : List Fld) : l.length - (dropL [x, y] l).length = (l.length - (dropL [x] l).length) + ((dropL [x] l).length - (dropL [y] (dropL [x] l)).length) := by
  rw [dropL_two]
  have h1 := dropL_len [x] l
  have h2 := dropL_len [y] (dropL [x] l)
  omega
theorem drop_values (x : List UInt8) (l : List Fld) : l.length - (dropL [x] l).length = (valuesL x l).length := by
  have := drop_len_one x l
  unfold valuesL
  rw [List.length_map]
  omega
end Go.Proofs.YtpdohlnobbimaaaDoor
