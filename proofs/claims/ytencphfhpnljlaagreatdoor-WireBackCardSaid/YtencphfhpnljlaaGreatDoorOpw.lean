/-
  Chapter 11: what a request line, a list of fields, a list of numbers that came in as an argument give.
-/
import Derived.Test.YtencphfhpnljlaaGreatDoorProg
import Derived.Test.YtencphfhpnljlaaGreatDoorWb1
import Derived.Lib.SmallJoins
import Derived.Deep.SlicePairs
import Derived.SliceStrings
import Derived.ChangeSlices
import Derived.OpenShut
namespace Go.Proofs.YtencphfhpnljlaaGreatDoor
open Go.RowKit Go.WideShapes Go.ChangeShapes

section
variable {H : Type} {enc : TypeId × Value → H}
theorem open_flds {P : Program} {t e s : TypeId} {f0 f1 : Field} {W : World} {base : Nat} {v : Value} {d : DataW H} {p : List MemPlace} (ht : P.underlying t = some (.slice e)) (he : P.underlying e = some (.struct #[f0, f1])) (hc : P.cellsOf e = 2)
    (o0 : f0.offset = 0) (o1 : f1.offset = 1) (t0 : f0.type = s) (t1 : f1.type = s) (hs : P.underlying s = some .string) (cs : P.cellsOf s = 1)
    (hval : Value.okWide P W .any base t v) (h : DataW.Trod enc P W 0 (fun _ => true) true t v d p) :
    ∃ (A : Option Addr) (len c : Nat) (l : List Fld), v = .slice A len c ∧ len ≤ maxLen ∧ len ≤ c ∧ Reads W W.heap.size 2 A len (fldsC l) ∧ ∀ f ∈ l, f.1.length ≤ maxLen ∧ f.2.length ≤ maxLen := by
  obtain ⟨a1, len, cap, rfl⟩ := okWide_slice ht hval
  obtain ⟨fuel, hf⟩ := h
  rcases Go.Deep.open_slice_pairs ht he hc o0 o1 (by rw [t0]; exact cs) (by rw [t1]; exact cs) hf with ⟨hcs, _⟩ | ⟨a, len', cap', m, n, V0, V1, D0, D1, P0, P1, hcs, _, hl, hm, hz, _, hcell⟩
  · simp [Value.cells] at hcs
    obtain ⟨rfl, rfl, rfl⟩ := hcs
    exact ⟨none, 0, 0, [], rfl, Nat.zero_le _, Nat.le_refl _, Reads.none_, by simp⟩
  · simp [Value.cells] at hcs
    obtain ⟨rfl, rfl, rfl⟩ := hcs
    simp only [if_true] at hz
    have each : ∀ i, i < len → ∃ x : ByteArray × ByteArray, W.cell? (a.add (i * 2)) = some (.string x.1) ∧ W.cell? (a.add (i * 2 + 1)) = some (.string x.2) ∧ x.1.size ≤ maxLen ∧ x.2.size ≤ maxLen := by
      intro i hi
      obtain ⟨c0, c1, d0, d1⟩ := hcell i (by omega)
      rw [t0] at d0
      rw [t1] at d1
      obtain ⟨s0, e0, _, w0⟩ := DataW.trod_string hs d0
      obtain ⟨s1, e1, _, w1⟩ := DataW.trod_string hs d1
      simp only [List.cons.injEq, and_true] at e0 e1
      rw [e0] at c0
      rw [e1] at c1
      exact ⟨(s0, s1), c0, c1, w0, w1⟩
    let g : Nat → Fld := fun i => if h : i < len then ((each i h).choose.1.data.toList, (each i h).choose.2.data.toList) else ([], [])
    have hg : ∀ i, i < len → W.cell? (a.add (i * 2)) = some (.string (bs (g i).1)) ∧ W.cell? (a.add (i * 2 + 1)) = some (.string (bs (g i).2)) ∧ (g i).1.length ≤ maxLen ∧ (g i).2.length ≤ maxLen := by
      intro i hi
      have hsp := (each i hi).choose_spec
      have eg : g i = ((each i hi).choose.1.data.toList, (each i hi).choose.2.data.toList) := dif_pos hi
      rw [eg]
      exact ⟨hsp.1, hsp.2.1, by rw [size_l]; exact hsp.2.2.1, by rw [size_l]; exact hsp.2.2.2⟩
    refine ⟨some a, len, cap, (List.range len).map g, rfl, by omega, hl, ⟨by rw [fldsC_len]; simp, fun h0 => ⟨a, rfl, ?_, ?_⟩⟩, fun f hf2 => ?_⟩
    · have h1 := (hg 0 (by omega)).1
      have := World.block_lt_of_cell? _ _ h1
      rwa [block_of_add] at this
    · intro j u hu
      have hj : j < len * 2 := by
        have := (List.getElem?_eq_some_iff.1 hu).1
        rw [fldsC_len] at this
        simpa using this
      have hi : j / 2 < ((List.range len).map g).length := by simp; omega
      obtain ⟨q0, q1⟩ := fldsC_get ((List.range len).map g) (j / 2) hi
      have eg : ((List.range len).map g)[j / 2] = g (j / 2) := by simp
      rw [eg] at q0 q1
      obtain ⟨h0, h1, _⟩ := hg (j / 2) (by omega)
      rcases Nat.mod_two_eq_zero_or_one j with hm2 | hm2
      · have ej : j / 2 * 2 = j := by omega
        rw [ej] at q0 h0
        rw [h0, ← q0, hu]
      · have ej : j / 2 * 2 + 1 = j := by omega
        rw [ej] at q1 h1
        rw [h1, ← q1, hu]
    · obtain ⟨i, hi, rfl⟩ := List.mem_map.1 hf2
      exact ⟨(hg i (List.mem_range.1 hi)).2.2.1, (hg i (List.mem_range.1 hi)).2.2.2⟩
end
section
variable {H : Type} {enc : TypeId × Value → H}
set_option maxRecDepth 100000 in
theorem open_line {W : World} {base : Nat} {v : Value} {d : DataW H} {p : List MemPlace} (hval : Value.okWide Tryz.prog W .any base 24 v) (h : DataW.Trod enc Tryz.prog W 0 (fun _ => true) true 24 v d p) :
    ∃ x : Fld, v = .agg #[.string (bs x.1), .string (bs x.2)] ∧ x.1.length ≤ maxLen ∧ x.2.length ≤ maxLen := by
  obtain ⟨v0, v1, y0, y1, n, rfl, _, _, h0, h1⟩ := Go.Joins.open_agg2 Tryz.underlying24 (by kernel_rfl) (by kernel_rfl) hval h
  obtain ⟨s, e0, _, b0⟩ := DataW.trod_string Tryz.underlying9 h0
  obtain ⟨t, e1, _, b1⟩ := DataW.trod_string Tryz.underlying9 h1
  simp only [List.cons.injEq, and_true] at e0 e1
  subst e0 e1
  exact ⟨(s.data.toList, t.data.toList), rfl, by rw [size_l]; exact b0, by rw [size_l]; exact b1⟩
end
section
variable {H : Type} {enc : TypeId × Value → H}
theorem open_list {P : Program} {t e : TypeId} {k : IntKind} {W : World} {base : Nat} {v : Value} {d : DataW H} {p : List MemPlace} (ht : P.underlying t = some (.slice e)) (he : P.underlying e = some (.int k)) (hc : P.cellsOf e = 1)
    (hval : Value.okWide P W .any base t v) (h : DataW.Trod enc P W 0 (fun _ => true) true t v d p) :
    ∃ (A : Option Addr) (len c : Nat) (zs : List Int), v = .slice A len c ∧ len ≤ maxLen ∧ Reads W W.heap.size 1 A len (zs.map (Value.int k)) ∧ ∀ z ∈ zs, (Lit.int k z).wf = true := by
  obtain ⟨a1, len, cap, rfl⟩ := okWide_slice ht hval
  obtain ⟨fuel, hf⟩ := h
  rcases open_ints ht he hc hf with ⟨hcs, _⟩ | ⟨a, len', cap', zs, hcs, _, hl, hm, hz, _, hcell, hwz⟩
  · simp [Value.cells] at hcs
    obtain ⟨rfl, rfl, rfl⟩ := hcs
    exact ⟨none, 0, 0, [], rfl, Nat.zero_le _, Reads.none_, by simp⟩
  · simp [Value.cells] at hcs
    obtain ⟨rfl, rfl, rfl⟩ := hcs
    simp only [if_true] at hz
    refine ⟨some a, len, cap, zs.take len, rfl, by omega, ⟨by simp; omega, fun h0 => ⟨a, rfl, ?_, ?_⟩⟩, fun z hz => hwz z (List.mem_of_mem_take hz)⟩
    · have := World.block_lt_of_cell? _ _ (hcell 0 (by omega))
      rwa [block_of_add] at this
    · intro j u hu
      rw [List.getElem?_map] at hu
      cases e1 : (zs.take len)[j]? with
      | none => rw [e1] at hu; simp at hu
      | some z =>
        rw [e1] at hu
        simp only [Option.map_some, Option.some.injEq] at hu
        subst hu
        have hj : j < (zs.take len).length := (List.getElem?_eq_some_iff.1 e1).1
        have hjl : j < zs.length := by simp at hj; omega
        have h1 := hcell j hjl
        rw [List.getElem?_take] at e1
        have h2 : zs[j]? = some z := by
          by_cases hlt : j < len
          · rwa [if_pos hlt] at e1
          · rw [if_neg hlt] at e1; simp at e1
        rw [h1, List.getD_eq_getElem?_getD, h2]
        rfl
end
end Go.Proofs.YtencphfhpnljlaaGreatDoor
