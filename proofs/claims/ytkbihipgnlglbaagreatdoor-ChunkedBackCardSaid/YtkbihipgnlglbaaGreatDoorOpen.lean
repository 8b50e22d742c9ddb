/-
  What a list of numbers that came in as an argument gives: its length, and that it reads as numbers. Lemmas of no program.
-/
import Derived.Test.YtkbihipgnlglbaaGreatDoorBase
import Derived.ChangeSlices
import Derived.OpenShut
namespace Go.Proofs.YtkbihipgnlglbaaGreatDoor
open Go.RowKit Go.WideShapes Go.ChangeShapes

section
variable {H : Type} {enc : TypeId × Value → H}
theorem open_list {P : Program} {t e : TypeId} {k : IntKind} {W : World} {base : Nat} {v : Value} {d : DataW H} {p : List MemPlace} (ht : P.underlying t = some (.slice e)) (he : P.underlying e = some (.int k)) (hc : P.cellsOf e = 1)
    (hval : Value.okWide P W .any base t v) (h : DataW.Trod enc P W 0 (fun _ => true) true t v d p) :
    ∃ (A : Option Addr) (len c : Nat) (zs : List Int), v = .slice A len c ∧ len ≤ maxLen ∧ Reads W W.heap.size 1 A len (zs.map (Value.int k)) ∧ ∀ z ∈ zs, (Lit.int k z).wf = true := by
  obtain ⟨a1, len, cap, rfl⟩ := okWide_slice ht hval
  obtain ⟨fuel, hf⟩ := h
  rcases open_ints ht he hc hf with ⟨hcs, _⟩ | ⟨a, len', cap', zs, hcs, _, hl, hm, hz, _, hcell, hwz⟩
  · simp [Value.cells] at hcs
    obtain ⟨rfl, rfl, rfl⟩ := hcs
    exact ⟨none, 0, 0, [], rfl, Nat.zero_le _, Reads.none_, by simp⟩
  · simp [Value.cells] at hcs
    obtain ⟨rfl, rfl, rfl⟩ := hcs
    simp only [if_true] at hz
    refine ⟨some a, len, cap, zs.take len, rfl, by omega, ⟨by simp; omega, fun h0 => ⟨a, rfl, ?_, ?_⟩⟩, fun z hz => hwz z (List.mem_of_mem_take hz)⟩
    · have := World.block_lt_of_cell? _ _ (hcell 0 (by omega))
      rwa [block_of_add] at this
    · intro j u hu
      rw [List.getElem?_map] at hu
      cases e1 : (zs.take len)[j]? with
      | none => rw [e1] at hu; simp at hu
      | some z =>
        rw [e1] at hu
        simp only [Option.map_some, Option.some.injEq] at hu
        subst hu
        have hj : j < (zs.take len).length := (List.getElem?_eq_some_iff.1 e1).1
        have hjl : j < zs.length := by simp at hj; omega
        have h1 := hcell j hjl
        rw [List.getElem?_take] at e1
        have h2 : zs[j]? = some z := by
          by_cases hlt : j < len
          · rwa [if_pos hlt] at e1
          · rw [if_neg hlt] at e1; simp at e1
        rw [h1, List.getD_eq_getElem?_getD, h2]
        rfl
end
end Go.Proofs.YtkbihipgnlglbaaGreatDoor
