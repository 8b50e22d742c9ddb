/-
  What a list of responses that came in as an argument gives.
-/
import Derived.Test.YthhlnpfcpgfcfaaDoorOpenR
import Derived.Test.YthhlnpfcpgfcfaaDoorLRsJoin
namespace Go.Proofs.YthhlnpfcpgfcfaaDoor
open Go.RowKit Go.WideShapes Go.ChangeShapes

section
variable {H : Type} {enc : TypeId × Value → H}
def RspAtJ (W : World) (a : Addr) (i : Nat) (x : RJ) : Prop :=
  (W.cell? (a.add (i * 5)) = some (.int .i64 x.1.code) ∧ W.cell? (a.add (i * 5 + 1)) = some (.slice x.2.1 x.1.flds.length x.2.2) ∧ W.cell? (a.add (i * 5 + 2)) = some (.string (bs x.1.body)) ∧ W.cell? (a.add (i * 5 + 3)) = some (.bool x.1.close) ∧ W.cell? (a.add (i * 5 + 4)) = some (.bool x.1.head)) ∧
    Reads W W.heap.size 2 x.2.1 x.1.flds.length (fldsC x.1.flds) ∧ BoundJ x.1
theorem RspAtJ.get {W : World} {a : Addr} {i : Nat} {x : RJ} (h : RspAtJ W a i x) (j : Nat) (hj : j < 5) : ∀ u, (rcJ x)[j]? = some u → W.cell? (a.add (i * 5 + j)) = some u := by
  intro u hu
  obtain ⟨⟨h0, h1, h2, h3, h4⟩, _⟩ := h
  have : j = 0 ∨ j = 1 ∨ j = 2 ∨ j = 3 ∨ j = 4 := by omega
  rcases this with rfl | rfl | rfl | rfl | rfl
  · exact h0.trans hu
  · exact h1.trans hu
  · exact h2.trans hu
  · exact h3.trans hu
  · exact h4.trans hu
set_option maxRecDepth 100000 in
theorem open_rsps {W : World} {base : Nat} {v : Value} {d : DataW H} {p : List MemPlace} (hval : Value.okWide Tryd.prog W .any base 38 v) (h : DataW.Trod enc Tryd.prog W 0 (fun _ => true) true 38 v d p) :
    ∃ (A : Option Addr) (len c : Nat) (X : List RJ), v = .slice A len c ∧ len ≤ 9223372036854775807 ∧ Reads W W.heap.size 5 A len (cellsJ X) ∧ ∀ x ∈ X, Reads W W.heap.size 2 x.2.1 x.1.flds.length (fldsC x.1.flds) ∧ BoundJ x.1 := by
  have ce : Tryd.prog.cellsOf 24 = 5 := by kernel_rfl
  have c1 : Tryd.prog.cellsOf 3 = 1 := by kernel_rfl
  have c2 : Tryd.prog.cellsOf 22 = 1 := by kernel_rfl
  have c3 : Tryd.prog.cellsOf 9 = 1 := by kernel_rfl
  have c4 : Tryd.prog.cellsOf 4 = 1 := by kernel_rfl
  obtain ⟨a1, len, cap, rfl⟩ := okWide_slice Tryd.underlying38 hval
  obtain ⟨fuel, hf⟩ := h
  rcases Go.Deep.open_slice Tryd.underlying38 hf with ⟨hcs, _⟩ | ⟨a, len', cap', m, n, D, Pl, hcs, hb, hl, hm, hmm, _, hx⟩
  · simp [Value.cells] at hcs
    obtain ⟨rfl, rfl, rfl⟩ := hcs
    exact ⟨none, 0, 0, [], rfl, by omega, Reads.none_, by simp⟩
  · simp [Value.cells] at hcs
    obtain ⟨rfl, rfl, rfl⟩ := hcs
    simp only [if_true] at hmm
    have each : ∀ i, i < len → ∃ x : RJ, RspAtJ W a i x := by
      intro i hi
      obtain ⟨cs', h1, h2⟩ := hx i (by omega)
      rw [ce] at h1
      obtain ⟨_, hlen, hcell⟩ := World.cells?_some h1
      obtain ⟨xs, k, hk, hxy, _, hxl, hf2⟩ := DataW.trod_struct Tryd.underlying24 h2
      match xs, hxl, cs', hlen, hf2, hcell with
      | [y0, y1, y2, y3, y4], _, [v0, v1, v2, v3, v4], _, hf2, hcell =>
        have g0 := hf2 0 _ rfl
        have g1 := hf2 1 _ rfl
        have g2 := hf2 2 _ rfl
        have g3 := hf2 3 _ rfl
        have g4 := hf2 4 _ rfl
        simp [c1, c2, c3, c4] at g0 g1 g2 g3 g4
        obtain ⟨x0, q0, _, _⟩ := DataW.trod_int Tryd.underlying3 g0
        obtain ⟨A, fl, c, l, q1, m1, m2, m3, m4⟩ := open_fldsT Tryd.underlying22 Tryd.underlying47 (by kernel_rfl) rfl rfl rfl rfl Tryd.underlying9 (by kernel_rfl) g1
        obtain ⟨x2, q2, _, b2⟩ := DataW.trod_string Tryd.underlying9 g2
        obtain ⟨x3, q3, _⟩ := DataW.trod_bool Tryd.underlying4 g3
        obtain ⟨x4, q4, _⟩ := DataW.trod_bool Tryd.underlying4 g4
        simp only [List.cons.injEq, and_true] at q0 q2 q3 q4
        subst q0 q1 q2 q3 q4
        have e0 := hcell 0 (by omega)
        have e1 := hcell 1 (by omega)
        have e2 := hcell 2 (by omega)
        have e3 := hcell 3 (by omega)
        have e4 := hcell 4 (by omega)
        rw [Go.Deep.add_add] at e0 e1 e2 e3 e4
        have hfl := m3.flen
        subst hfl
        unfold maxLen at m1 b2 m4
        refine ⟨(⟨x0, l, x2.data.toList, x3, x4⟩, A, c), ⟨?_, ?_, ?_, ?_, ?_⟩, m3, m1, by rw [size_l]; exact b2, m4⟩
        · simpa using e0
        · simpa using e1
        · simpa [bs] using e2
        · simpa using e3
        · simpa using e4
    let g : Nat → RJ := fun i => if h : i < len then (each i h).choose else (noRsp, none, 0)
    have hg : ∀ i, i < len → RspAtJ W a i (g i) := by
      intro i hi
      have eg : g i = (each i hi).choose := dif_pos hi
      rw [eg]
      exact (each i hi).choose_spec
    have hxl : ((List.range len).map g).length = len := by simp
    refine ⟨some a, len, cap, (List.range len).map g, rfl, by unfold maxLen at hm; omega, ⟨by rw [cellsJ_len, hxl], fun h0 => ⟨a, rfl, ?_, ?_⟩⟩, fun x hx2 => ?_⟩
    · have h1 := (hg 0 (by omega)).1.1
      have := World.block_lt_of_cell? _ _ h1
      rwa [block_of_add] at this
    · intro j u hu
      have hj : j < len * 5 := by
        have := (List.getElem?_eq_some_iff.1 hu).1
        rw [cellsJ_len, hxl] at this
        exact this
      have hi : j / 5 < ((List.range len).map g).length := by rw [hxl]; omega
      have hm5 : j % 5 < 5 := Nat.mod_lt _ (by omega)
      have ej : j / 5 * 5 + j % 5 = j := by omega
      have q := cellsJ_get ((List.range len).map g) (j / 5) hi (j % 5) hm5
      have eg : ((List.range len).map g)[j / 5] = g (j / 5) := by simp
      rw [eg, ej] at q
      have := (hg (j / 5) (by omega)).get (j % 5) hm5 u (q ▸ hu)
      rwa [ej] at this
    · obtain ⟨i, hi, rfl⟩ := List.mem_map.1 hx2
      exact ⟨(hg i (List.mem_range.1 hi)).2.1, (hg i (List.mem_range.1 hi)).2.2⟩
end
end Go.Proofs.YthhlnpfcpgfcfaaDoor
