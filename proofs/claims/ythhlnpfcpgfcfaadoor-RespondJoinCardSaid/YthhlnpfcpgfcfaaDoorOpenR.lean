/-
  What a response that came in as an argument gives.
-/
import Derived.Test.YthhlnpfcpgfcfaaDoorRs2
import Derived.Deep.SlicePairs
import Derived.Deep.Strs
import Derived.SliceStrings
import Derived.OpenShut
namespace Go.Proofs.YthhlnpfcpgfcfaaDoor
open Go.RowKit Go.WideShapes Go.ChangeShapes

section
variable {H : Type} {enc : TypeId × Value → H}
theorem open_fldsT {P : Program} {t e s : TypeId} {f0 f1 : Field} {W : World} {v : Value} (ht : P.underlying t = some (.slice e)) (he : P.underlying e = some (.struct #[f0, f1])) (hc : P.cellsOf e = 2)
    (o0 : f0.offset = 0) (o1 : f1.offset = 1) (t0 : f0.type = s) (t1 : f1.type = s) (hs : P.underlying s = some .string) (cs : P.cellsOf s = 1)
    {fuel : Nat} {x : DataW H × List MemPlace} (hf : DataW.trod enc P W 0 (fun _ => true) true fuel t [v] = some x) :
    ∃ (A : Option Addr) (len c : Nat) (l : List Fld), v = .slice A len c ∧ len ≤ maxLen ∧ len ≤ c ∧ Reads W W.heap.size 2 A len (fldsC l) ∧ ∀ f ∈ l, f.1.length ≤ maxLen ∧ f.2.length ≤ maxLen := by
  rcases Go.Deep.open_slice_pairs ht he hc o0 o1 (by rw [t0]; exact cs) (by rw [t1]; exact cs) hf with ⟨hcs, _⟩ | ⟨a, len, cap, m, n, V0, V1, D0, D1, P0, P1, hcs, _, hl, hm, hz, _, hcell⟩
  · simp only [List.cons.injEq, and_true] at hcs
    subst hcs
    exact ⟨none, 0, 0, [], rfl, Nat.zero_le _, Nat.le_refl _, Reads.none_, by simp⟩
  · simp only [List.cons.injEq, and_true] at hcs
    subst hcs
    simp only [if_true] at hz
    have each : ∀ i, i < len → ∃ x : ByteArray × ByteArray, W.cell? (a.add (i * 2)) = some (.string x.1) ∧ W.cell? (a.add (i * 2 + 1)) = some (.string x.2) ∧ x.1.size ≤ maxLen ∧ x.2.size ≤ maxLen := by
      intro i hi
      obtain ⟨c0, c1, d0, d1⟩ := hcell i (by omega)
      rw [t0] at d0
      rw [t1] at d1
      obtain ⟨s0, e0, _, w0⟩ := DataW.trod_string hs d0
      obtain ⟨s1, e1, _, w1⟩ := DataW.trod_string hs d1
      simp only [List.cons.injEq, and_true] at e0 e1
      rw [e0] at c0
      rw [e1] at c1
      exact ⟨(s0, s1), c0, c1, w0, w1⟩
    let g : Nat → Fld := fun i => if h : i < len then ((each i h).choose.1.data.toList, (each i h).choose.2.data.toList) else ([], [])
    have hg : ∀ i, i < len → W.cell? (a.add (i * 2)) = some (.string (bs (g i).1)) ∧ W.cell? (a.add (i * 2 + 1)) = some (.string (bs (g i).2)) ∧ (g i).1.length ≤ maxLen ∧ (g i).2.length ≤ maxLen := by
      intro i hi
      have hsp := (each i hi).choose_spec
      have eg : g i = ((each i hi).choose.1.data.toList, (each i hi).choose.2.data.toList) := dif_pos hi
      rw [eg]
      exact ⟨hsp.1, hsp.2.1, by rw [size_l]; exact hsp.2.2.1, by rw [size_l]; exact hsp.2.2.2⟩
    refine ⟨some a, len, cap, (List.range len).map g, rfl, by omega, hl, ⟨by rw [fldsC_len]; simp, fun h0 => ⟨a, rfl, ?_, ?_⟩⟩, fun f hf2 => ?_⟩
    · have h1 := (hg 0 (by omega)).1
      have := World.block_lt_of_cell? _ _ h1
      rwa [block_of_add] at this
    · intro j u hu
      have hj : j < len * 2 := by
        have := (List.getElem?_eq_some_iff.1 hu).1
        rw [fldsC_len] at this
        simpa using this
      have hi : j / 2 < ((List.range len).map g).length := by simp; omega
      obtain ⟨q0, q1⟩ := fldsC_get ((List.range len).map g) (j / 2) hi
      have eg : ((List.range len).map g)[j / 2] = g (j / 2) := by simp
      rw [eg] at q0 q1
      obtain ⟨h0, h1, _⟩ := hg (j / 2) (by omega)
      rcases Nat.mod_two_eq_zero_or_one j with hm2 | hm2
      · have ej : j / 2 * 2 = j := by omega
        rw [ej] at q0 h0
        rw [h0, ← q0, hu]
      · have ej : j / 2 * 2 + 1 = j := by omega
        rw [ej] at q1 h1
        rw [h1, ← q1, hu]
    · obtain ⟨i, hi, rfl⟩ := List.mem_map.1 hf2
      exact ⟨(hg i (List.mem_range.1 hi)).2.2.1, (hg i (List.mem_range.1 hi)).2.2.2⟩

set_option maxRecDepth 100000 in
theorem open_rsp {W : World} {base : Nat} {v : Value} {d : DataW H} {p : List MemPlace} (hval : Value.okWide Tryd.prog W .any base 24 v) (h : DataW.Trod enc Tryd.prog W 0 (fun _ => true) true 24 v d p) :
    ∃ (r : Rsp) (A : Option Addr) (len c : Nat), v = rspV r A len c ∧ len ≤ maxLen ∧ len ≤ c ∧ Reads W W.heap.size 2 A len (fldsC r.flds) ∧ r.body.length ≤ maxLen ∧ ∀ f ∈ r.flds, f.1.length ≤ maxLen ∧ f.2.length ≤ maxLen := by
  have ce : Tryd.prog.cellsOf 24 = 5 := by kernel_rfl
  have c1 : Tryd.prog.cellsOf 3 = 1 := by kernel_rfl
  have c2 : Tryd.prog.cellsOf 22 = 1 := by kernel_rfl
  have c3 : Tryd.prog.cellsOf 9 = 1 := by kernel_rfl
  have c4 : Tryd.prog.cellsOf 4 = 1 := by kernel_rfl
  obtain ⟨cs, rfl, hsz⟩ := okWide_struct Tryd.underlying24 hval
  rw [ce] at hsz
  obtain ⟨fuel, hf⟩ := h
  obtain ⟨xs, k, hk, hxy, _, hxl, hf2⟩ := DataW.trod_struct Tryd.underlying24 hf
  obtain ⟨l⟩ := cs
  match xs, hxl, l, hsz, hf, hf2 with
  | [y0, y1, y2, y3, y4], _, [v0, v1, v2, v3, v4], _, _, hf2 =>
    have g0 := hf2 0 _ rfl
    have g1 := hf2 1 _ rfl
    have g2 := hf2 2 _ rfl
    have g3 := hf2 3 _ rfl
    have g4 := hf2 4 _ rfl
    simp [Value.cells, c1, c2, c3, c4] at g0 g1 g2 g3 g4
    obtain ⟨x0, q0, _, _⟩ := DataW.trod_int Tryd.underlying3 g0
    obtain ⟨A, len, c, fl, q1, m1, m2, m3, m4⟩ := open_fldsT Tryd.underlying22 Tryd.underlying47 (by kernel_rfl) rfl rfl rfl rfl Tryd.underlying9 (by kernel_rfl) g1
    obtain ⟨x2, q2, _, b2⟩ := DataW.trod_string Tryd.underlying9 g2
    obtain ⟨x3, q3, _⟩ := DataW.trod_bool Tryd.underlying4 g3
    obtain ⟨x4, q4, _⟩ := DataW.trod_bool Tryd.underlying4 g4
    simp only [List.cons.injEq, and_true] at q0 q2 q3 q4
    subst q0 q1 q2 q3 q4
    exact ⟨⟨x0, fl, x2.data.toList, x3, x4⟩, A, len, c, rfl, m1, m2, m3, by rw [size_l]; exact b2, m4⟩
end
end Go.Proofs.YthhlnpfcpgfcfaaDoor
