/-
  What a connection and an event that came in as arguments give. What a list of events that came in as an argument gives: its length, and that it reads as events. What a list of fields that came in as an argument gives: its length, and that it reads as fields. Lemmas of no program. PersistRuns, the law.
-/
import Derived.Test.YtepemdmjbfoiaaaDoorProg
import Derived.Test.YtepemdmjbfoiaaaDoorBase
import Derived.Lib.SmallJoins
import Derived.OpenShut
import Derived.Test.YtepemdmjbfoiaaaDoorPe4
import Derived.Deep.SlicePairs
import Derived.Deep.Strs
import Derived.Test.YtepemdmjbfoiaaaDoorFdP
import Derived.SliceStrings
import Derived.Test.YtepemdmjbfoiaaaDoorPe11
import Derived.Test.YtepemdmjbfoiaaaDoorFd6
namespace Go.Proofs.YtepemdmjbfoiaaaDoor

section
open Go.RowKit Go.WideShapes Go.ChangeShapes

section
variable {H : Type} {enc : TypeId × Value → H}
set_option maxRecDepth 100000 in
theorem open_lk {W : World} {base : Nat} {v : Value} {d : DataW H} {p : List MemPlace} (hval : Value.okWide Tryd.prog W .any base 76 v) (h : DataW.Trod enc Tryd.prog W 0 (fun _ => true) true 76 v d p) :
    ∃ (s : Int) (a : Bool) (m c : Int), v = .agg #[.int .i64 s, .bool a, .int .i64 m, .int .i64 c] := by
  obtain ⟨v0, v1, v2, v3, y0, y1, y2, y3, n, rfl, _, _, h0, h1, h2, h3⟩ := Go.Joins.open_agg4 Tryd.underlying76 (by kernel_rfl) (by kernel_rfl) hval h
  obtain ⟨s, e0, _, _⟩ := DataW.trod_int Tryd.underlying3 h0
  obtain ⟨a, e1, _⟩ := DataW.trod_bool Tryd.underlying4 h1
  obtain ⟨m, e2, _, _⟩ := DataW.trod_int Tryd.underlying3 h2
  obtain ⟨c, e3, _, _⟩ := DataW.trod_int Tryd.underlying3 h3
  simp only [List.cons.injEq, and_true] at e0 e1 e2 e3
  subst e0 e1 e2 e3
  exact ⟨s, a, m, c, rfl⟩
set_option maxRecDepth 100000 in
theorem open_ev {W : World} {base : Nat} {v : Value} {d : DataW H} {p : List MemPlace} (hval : Value.okWide Tryd.prog W .any base 81 v) (h : DataW.Trod enc Tryd.prog W 0 (fun _ => true) true 81 v d p) :
    ∃ (k c : Int) (b : Bool), v = .agg #[.int .i64 k, .int .i64 c, .bool b] := by
  obtain ⟨v0, v1, v2, y0, y1, y2, n, rfl, _, _, h0, h1, h2⟩ := Go.Joins.open_agg3 Tryd.underlying81 (by kernel_rfl) (by kernel_rfl) hval h
  obtain ⟨s, e0, _, _⟩ := DataW.trod_int Tryd.underlying3 h0
  obtain ⟨m, e1, _, _⟩ := DataW.trod_int Tryd.underlying3 h1
  obtain ⟨a, e2, _⟩ := DataW.trod_bool Tryd.underlying4 h2
  simp only [List.cons.injEq, and_true] at e0 e1 e2
  subst e0 e1 e2
  exact ⟨s, m, a, rfl⟩
end
end

section
open Go.RowKit Go.WideShapes Go.ChangeShapes Go.Deep

section
variable {H : Type} {enc : TypeId × Value → H}
theorem block_of_addE {a : Addr} {k : Nat} : (a.add k).block = a.block := by
  unfold Addr.add; split <;> rfl
set_option maxRecDepth 100000 in
theorem open_evs {W : World} {base : Nat} {v : Value} {d : DataW H} {p : List MemPlace} (hval : Value.okWide Tryd.prog W .any base 72 v) (h : DataW.Trod enc Tryd.prog W 0 (fun _ => true) true 72 v d p) :
    ∃ (A : Option Addr) (len c : Nat) (l : List Ev), v = .slice A len c ∧ len ≤ maxLen ∧ len ≤ c ∧ Reads W W.heap.size 3 A len (evsC l) := by
  have ce : Tryd.prog.cellsOf 81 = 3 := by kernel_rfl
  obtain ⟨a1, len, cap, rfl⟩ := okWide_slice Tryd.underlying72 hval
  obtain ⟨fuel, hf⟩ := h
  rcases open_slice Tryd.underlying72 hf with ⟨hcs, _⟩ | ⟨a, len', cap', m, n, D, Pl, hcs, _, hl, hm, hmm, _, hx⟩
  · simp [Value.cells] at hcs
    obtain ⟨rfl, rfl, rfl⟩ := hcs
    exact ⟨none, 0, 0, [], rfl, Nat.zero_le _, Nat.le_refl _, Reads.none_⟩
  · simp [Value.cells] at hcs
    obtain ⟨rfl, rfl, rfl⟩ := hcs
    simp only [if_true] at hmm
    have each : ∀ i, i < len → ∃ x : Ev, W.cell? (a.add (i * 3)) = some (.int .i64 x.1) ∧ W.cell? (a.add (i * 3 + 1)) = some (.int .i64 x.2.1) ∧ W.cell? (a.add (i * 3 + 2)) = some (.bool x.2.2) := by
      intro i hi
      obtain ⟨cs', h1, h2⟩ := hx i (by omega)
      rw [ce] at h1
      obtain ⟨_, hlen, hcell⟩ := World.cells?_some h1
      obtain ⟨xs, k, hk, hxy, _, hxl, hf2⟩ := DataW.trod_struct Tryd.underlying81 h2
      match xs, hxl, cs', hlen with
      | [y0, y1, y2], _, [v0, v1, v2], _ =>
        have g0 := hf2 0 _ rfl
        have g1 := hf2 1 _ rfl
        have g2 := hf2 2 _ rfl
        have c3 : Tryd.prog.cellsOf 3 = 1 := by kernel_rfl
        have c4 : Tryd.prog.cellsOf 4 = 1 := by kernel_rfl
        simp [c3, c4] at g0 g1 g2
        have e0 := hcell 0 (by omega)
        have e1 := hcell 1 (by omega)
        have e2 := hcell 2 (by omega)
        rw [add_add] at e0 e1 e2
        obtain ⟨x0, q0, _, _⟩ := DataW.trod_int Tryd.underlying3 g0
        obtain ⟨x1, q1, _, _⟩ := DataW.trod_int Tryd.underlying3 g1
        obtain ⟨x2, q2, _⟩ := DataW.trod_bool Tryd.underlying4 g2
        simp only [List.cons.injEq, and_true] at q0 q1 q2
        subst q0 q1 q2
        exact ⟨(x0, x1, x2), by simpa using e0, by simpa using e1, by simpa using e2⟩
    let g : Nat → Ev := fun i => if h : i < len then (each i h).choose else (0, 0, false)
    have hg : ∀ i, i < len → W.cell? (a.add (i * 3)) = some (.int .i64 (g i).1) ∧ W.cell? (a.add (i * 3 + 1)) = some (.int .i64 (g i).2.1) ∧ W.cell? (a.add (i * 3 + 2)) = some (.bool (g i).2.2) := by
      intro i hi
      have eg : g i = (each i hi).choose := dif_pos hi
      rw [eg]
      exact (each i hi).choose_spec
    refine ⟨some a, len, cap, (List.range len).map g, rfl, by omega, hl, ⟨by rw [evsC_len]; simp, fun h0 => ⟨a, rfl, ?_, ?_⟩⟩⟩
    · have h1 := (hg 0 (by omega)).1
      have := World.block_lt_of_cell? _ _ h1
      rwa [block_of_addE] at this
    · intro j u hu
      have hj : j < len * 3 := by
        have := (List.getElem?_eq_some_iff.1 hu).1
        rw [evsC_len] at this
        simpa using this
      have hi : j / 3 < ((List.range len).map g).length := by simp; omega
      obtain ⟨q0, q1, q2⟩ := evsC_get ((List.range len).map g) (j / 3) hi
      have eg : ((List.range len).map g)[j / 3] = g (j / 3) := by simp
      rw [eg] at q0 q1 q2
      obtain ⟨h0, h1, h2⟩ := hg (j / 3) (by omega)
      have h3 : j % 3 = 0 ∨ j % 3 = 1 ∨ j % 3 = 2 := by omega
      rcases h3 with hm2 | hm2 | hm2
      · have ej : j / 3 * 3 = j := by omega
        rw [ej] at q0 h0
        rw [h0, ← q0, hu]
      · have ej : j / 3 * 3 + 1 = j := by omega
        rw [ej] at q1 h1
        rw [h1, ← q1, hu]
      · have ej : j / 3 * 3 + 2 = j := by omega
        rw [ej] at q2 h2
        rw [h2, ← q2, hu]
end
end

section
open Go.RowKit Go.WideShapes Go.ChangeShapes

section
variable {H : Type} {enc : TypeId × Value → H}
theorem open_flds {P : Program} {t e s : TypeId} {f0 f1 : Field} {W : World} {base : Nat} {v : Value} {d : DataW H} {p : List MemPlace} (ht : P.underlying t = some (.slice e)) (he : P.underlying e = some (.struct #[f0, f1])) (hc : P.cellsOf e = 2)
    (o0 : f0.offset = 0) (o1 : f1.offset = 1) (t0 : f0.type = s) (t1 : f1.type = s) (hs : P.underlying s = some .string) (cs : P.cellsOf s = 1)
    (hval : Value.okWide P W .any base t v) (h : DataW.Trod enc P W 0 (fun _ => true) true t v d p) :
    ∃ (A : Option Addr) (len c : Nat) (l : List Fld), v = .slice A len c ∧ len ≤ maxLen ∧ len ≤ c ∧ Reads W W.heap.size 2 A len (fldsC l) ∧ ∀ f ∈ l, f.1.length ≤ maxLen ∧ f.2.length ≤ maxLen := by
  obtain ⟨a1, len, cap, rfl⟩ := okWide_slice ht hval
  obtain ⟨fuel, hf⟩ := h
  rcases Go.Deep.open_slice_pairs ht he hc o0 o1 (by rw [t0]; exact cs) (by rw [t1]; exact cs) hf with ⟨hcs, _⟩ | ⟨a, len', cap', m, n, V0, V1, D0, D1, P0, P1, hcs, _, hl, hm, hz, _, hcell⟩
  · simp [Value.cells] at hcs
    obtain ⟨rfl, rfl, rfl⟩ := hcs
    exact ⟨none, 0, 0, [], rfl, Nat.zero_le _, Nat.le_refl _, Reads.none_, by simp⟩
  · simp [Value.cells] at hcs
    obtain ⟨rfl, rfl, rfl⟩ := hcs
    simp only [if_true] at hz
    have each : ∀ i, i < len → ∃ x : ByteArray × ByteArray, W.cell? (a.add (i * 2)) = some (.string x.1) ∧ W.cell? (a.add (i * 2 + 1)) = some (.string x.2) ∧ x.1.size ≤ maxLen ∧ x.2.size ≤ maxLen := by
      intro i hi
      obtain ⟨c0, c1, d0, d1⟩ := hcell i (by omega)
      rw [t0] at d0
      rw [t1] at d1
      obtain ⟨s0, e0, _, w0⟩ := DataW.trod_string hs d0
      obtain ⟨s1, e1, _, w1⟩ := DataW.trod_string hs d1
      simp only [List.cons.injEq, and_true] at e0 e1
      rw [e0] at c0
      rw [e1] at c1
      exact ⟨(s0, s1), c0, c1, w0, w1⟩
    let g : Nat → Fld := fun i => if h : i < len then ((each i h).choose.1.data.toList, (each i h).choose.2.data.toList) else ([], [])
    have hg : ∀ i, i < len → W.cell? (a.add (i * 2)) = some (.string (bs (g i).1)) ∧ W.cell? (a.add (i * 2 + 1)) = some (.string (bs (g i).2)) ∧ (g i).1.length ≤ maxLen ∧ (g i).2.length ≤ maxLen := by
      intro i hi
      have hsp := (each i hi).choose_spec
      have eg : g i = ((each i hi).choose.1.data.toList, (each i hi).choose.2.data.toList) := dif_pos hi
      rw [eg]
      exact ⟨hsp.1, hsp.2.1, by rw [size_l]; exact hsp.2.2.1, by rw [size_l]; exact hsp.2.2.2⟩
    refine ⟨some a, len, cap, (List.range len).map g, rfl, by omega, hl, ⟨by rw [fldsC_len]; simp, fun h0 => ⟨a, rfl, ?_, ?_⟩⟩, fun f hf2 => ?_⟩
    · have h1 := (hg 0 (by omega)).1
      have := World.block_lt_of_cell? _ _ h1
      rwa [block_of_add] at this
    · intro j u hu
      have hj : j < len * 2 := by
        have := (List.getElem?_eq_some_iff.1 hu).1
        rw [fldsC_len] at this
        simpa using this
      have hi : j / 2 < ((List.range len).map g).length := by simp; omega
      obtain ⟨q0, q1⟩ := fldsC_get ((List.range len).map g) (j / 2) hi
      have eg : ((List.range len).map g)[j / 2] = g (j / 2) := by simp
      rw [eg] at q0 q1
      obtain ⟨h0, h1, _⟩ := hg (j / 2) (by omega)
      rcases Nat.mod_two_eq_zero_or_one j with hm2 | hm2
      · have ej : j / 2 * 2 = j := by omega
        rw [ej] at q0 h0
        rw [h0, ← q0, hu]
      · have ej : j / 2 * 2 + 1 = j := by omega
        rw [ej] at q1 h1
        rw [h1, ← q1, hu]
    · obtain ⟨i, hi, rfl⟩ := List.mem_map.1 hf2
      exact ⟨(hg i (List.mem_range.1 hi)).2.2.1, (hg i (List.mem_range.1 hi)).2.2.2⟩
end
end

section
open Go.RowKit

theorem infoEvt : (Tryd.prog.info? 81).map (fun i => (i.zero, i.size, i.bytes)) = some (some (.agg #[.int .i64 0, .int .i64 0, .bool false]), 3, 24) := by kernel_rfl
theorem own_evs (A : Option Addr) (n c : Nat) (xs : List Ev) (w : World) (hr : Reads w w.heap.size 3 A n (evsC xs)) (hn : n ≤ 1000000) :
    ∃ B d w', (Builtin.append_ #[72, 72] 72 #[.slice (some ⟨w.heap.size, 0, none⟩) 0 0, .slice A n c]).run Tryd.prog (w.alloc (.cells #[] 81)) = .ok (.slice B n d) w' ∧ Reads w' w'.heap.size 3 B n (evsC xs) ∧ Below w.heap.size w w' := by
  obtain rfl := hr.elen
  obtain ⟨i0, hi, hz0, hz1, hz2⟩ := info_parts infoEvt
  have hown := World.ownsRow_made (base := w.heap.size) (e := 81) (size := 3) w #[] 0 (Nat.le_refl _) (Nat.zero_le _) rfl
  have hr2 := hr.alloc (Nat.le_refl _) (.cells #[] 81)
  have hb1 : (0 + xs.length) ≤ maxLen := by unfold maxLen; omega
  have hb2 : (0 + xs.length) * 24 ≤ 140737488355328 := by omega
  obtain ⟨v', w', hrun, ho, hg, hor⟩ := run_append_any (P := Tryd.prog) (w.alloc (.cells #[] 81)) w.heap.size 72 72 81 i0 (.agg #[.int .i64 0, .int .i64 0, .bool false]) 3 24 Tryd.underlying72 hi hz0 hz1 hz2 rfl (by decide) _ 0 [] hown w.heap.size A xs.length c (evsC xs) hr2 (evsC_one xs) hb1 hb2 (by simp)
  rw [List.nil_append, Nat.zero_add] at ho
  obtain ⟨B, d, rfl⟩ := own_slice ho
  exact ⟨B, d, w', hrun, Reads.of_own ho, ((Below.refl _ w).alloc (Nat.le_refl _) _).grown hg (by simp) (own_ge hown)⟩
theorem neEv (a0 a1 : Int) (a2 : Bool) (w : World) : (binOp .neq 81 (.agg #[.int .i64 a0, .int .i64 a1, .bool a2]) (.agg #[.int .i64 a0, .int .i64 a1, .bool a2])).run Tryd.prog w = .ok (.bool false) w := by
  have u3 := Tryd.underlying3
  have a3' := Tryd.isAgg3
  have z3 := Tryd.sizeOf3
  have u4 := Tryd.underlying4
  have a4' := Tryd.isAgg4
  have z4 := Tryd.sizeOf4
  rw [run_neq_struct, show (10000 : Nat) = 9999 + 1 from rfl, Op.equalIn]
  simp only [Sem.run_bind, run_underlying Tryd.underlying81, Result.andThen_ok]
  go_simp

def small1 (f : Fld) : Prop := f.1.length ≤ 100 ∧ f.2.length ≤ 100

set_option maxRecDepth 100000 in
set_option maxHeartbeats 16000000 in
theorem PersistRuns_true (s : Int) (a : Bool) (m d : Int) (A : Option Addr) (n c : Nat) (es : List Ev) (B : Option Addr) (p q : Nat) (l : List Fld) (w : World) (hr : Reads w w.heap.size 3 A n (evsC es)) (hn : n ≤ 9223372036854775807)
    (ht : Reads w w.heap.size 2 B p (fldsC l)) (hp : p ≤ 9223372036854775807) (hx : ∀ f ∈ l, f.1.length ≤ 9223372036854775807 ∧ f.2.length ≤ 9223372036854775807) :
    Calls Tryd.prog 19 #[.agg #[.int .i64 s, .bool a, .int .i64 m, .int .i64 d], .slice A n c, .slice B p q] w fun e w' => e = .returned (.bool true) ∧ Below w.heap.size w w' := by
  obtain rfl := hr.elen
  obtain rfl := ht.flen
  have HR := Lib.hid hr
  have HT := Lib.hid ht
  have HX := Lib.hid hx
  have AW := Lib.hid awake13
  have hb1 : Below w.heap.size w (w.alloc (.cells #[.int .i64 s, .bool a, .int .i64 m, .int .i64 d] 76)) := (Below.refl _ _).alloc (Nat.le_refl _) _
  have kL := Blk.new w 76 #[.int .i64 s, .bool a, .int .i64 m, .int .i64 d]
  have HB := Lib.hid (And.intro kL hb1)
  clear hr ht hx hb1 kL
  by_cases hbig : 60 < es.length ∨ 40 < l.length
  · have hd : decide ((60 : Int) < (es.length : Int)) = false → decide ((40 : Int) < (l.length : Int)) = true := by
      intro h
      simp at h
      simp
      omega
    clear hn hp hbig
    go_enter Tryd.func19, Tryd.ntmps19
    go_wp2_with fail
    all_goals (
      (with_reducible refine (AW.out _).mono ?_); rintro e w1 ⟨rfl, g1⟩
      go_wp2_with fail
      go_ret
      exact ⟨rfl, HB.out.2.trans (g1.mono HB.out.2.size)⟩)
  · have hd1 : decide ((60 : Int) < (es.length : Int)) = false := by simp; omega
    have hd2 : decide ((40 : Int) < (l.length : Int)) = false := by simp; omega
    have hn60 : es.length ≤ 60 := by omega
    have hl40 : l.length ≤ 40 := by omega
    clear hn hp hbig
    go_enter Tryd.func19, Tryd.ntmps19
    go_wp2_with fail
    obtain ⟨W0, hW0⟩ : ∃ W0, w.alloc (.cells #[.int .i64 s, .bool a, .int .i64 m, .int .i64 d] 76) = W0 := ⟨_, rfl⟩
    rw [hW0] at HB ⊢
    clear hW0
    go_loop [7] (fun i => ∃ k : Nat, i = .int .i64 k ∧ k ≤ l.length ∧ Hid (∀ f ∈ l.take k, small1 f)) (fun i => l.length - (intOf i).toNat)
    case atStart => exact ⟨0, rfl, by omega, hide (by simp)⟩
    case round =>
      obtain ⟨k, rfl, hk, HS⟩ := hrel
      by_cases hlt : k < l.length
      · obtain ⟨b, o, rfl, hbl, q1, q2⟩ := HT.out.fld k hlt
        have c1 := (HB.out.2.cell (p := ⟨b, o + k * 2, none⟩) hbl).trans q1
        have c2 := (HB.out.2.cell (p := ⟨b, o + k * 2 + 1, none⟩) hbl).trans q2
        obtain ⟨f, hf⟩ : ∃ f, l[k] = f := ⟨_, rfl⟩
        have hfl := HX.out l[k] (List.getElem_mem hlt)
        rw [hf] at c1 c2 hfl
        have s1 : (bs f.1).size = f.1.length := bs_size _
        have s2 : (bs f.2).size = f.2.length := bs_size _
        have HF := Lib.hid hf
        clear hf q1 q2
        by_cases g1 : f.1.length ≤ 100
        · have e1 : decide ((100 : Int) < (f.1.length : Int)) = false := by simp; omega
          by_cases g2 : f.2.length ≤ 100
          · have e2 : decide ((100 : Int) < (f.2.length : Int)) = false := by simp; omega
            have HT' : Hid (∀ f ∈ l.take (k + 1), small1 f) := by
              rw [List.take_succ_eq_append_getElem hlt]
              intro y hy
              rcases List.mem_append.1 hy with hy | hy
              · exact HS.out y hy
              · rw [List.mem_singleton.1 hy, HF.out]; exact ⟨g1, g2⟩
            go_wp2_with fail
            exact ⟨⟨k + 1, by go_num, by omega, HT'⟩, by simp [intOf]; omega⟩
          · have e2 : decide ((100 : Int) < (f.2.length : Int)) = true := by simp; omega
            go_wp2_with fail
            (with_reducible refine (AW.out _).mono ?_); rintro e w1 ⟨rfl, g1⟩
            go_wp2_with fail
            go_ret
            exact ⟨rfl, HB.out.2.trans (g1.mono HB.out.2.size)⟩
        · have e1 : decide ((100 : Int) < (f.1.length : Int)) = true := by simp; omega
          go_wp2_with fail
          (with_reducible refine (AW.out _).mono ?_); rintro e w1 ⟨rfl, g1⟩
          go_wp2_with fail
          go_ret
          exact ⟨rfl, HB.out.2.trans (g1.mono HB.out.2.size)⟩
      · have hkl : k = l.length := by omega
        subst hkl
        have hd3 : decide ((l.length : Int) < (l.length : Int)) = false := by simp
        have hS := HS.out
        rw [List.take_length] at hS
        have hok : fldsOk l := fun f hf => by
          obtain ⟨h1, h2⟩ := hS f hf
          exact ⟨by omega, by omega⟩
        obtain ⟨O, od, w1, hrun, hO, g1⟩ := own_evs A es.length c es W0 ((HR.out.below HB.out.2).more HB.out.2.size) (by omega)
        have HRUN := Lib.hid hrun
        have h1 := HB.out.2.trans (g1.mono HB.out.2.size)
        have kL1 := HB.out.1.below g1 HB.out.1.lt
        have cP := fun w hr => pRun (s, a, m, d) O es.length od es w hr (by omega)
        have cR := fun w hr => rRun (s, a, m, d) A es.length c es w hr (by omega)
        obtain ⟨⟨⟨s2, a2, m2, d2⟩, X, Y⟩, hV⟩ : ∃ V, runV (s, a, m, d) es = V := ⟨_, rfl⟩
        rw [hV] at cP cR
        unfold lkV linkV at cP cR
        simp only at cP cR
        have CP := Lib.hid cP
        have CR := Lib.hid cR
        have CO := Lib.hid (OwnFields_any B l.length q l w1 ((HT.out.below h1).more h1.size) (by omega))
        have cc1 := fun D dd w hr => pCloses D l.length dd l w hr (by omega) hok
        have cc2 := fun w hr => rCloses B l.length q l w hr (by omega) hok
        obtain ⟨Z, hZ⟩ : ∃ Z, l.any closeF = Z := ⟨_, rfl⟩
        rw [hZ] at cc1 cc2
        have CC1 := Lib.hid cc1
        have CC2 := Lib.hid cc2
        have hq : ∀ w, (binOp .neq 76 (.agg #[.int .i64 s2, .bool a2, .int .i64 m2, .int .i64 d2]) (.agg #[.int .i64 s2, .bool a2, .int .i64 m2, .int .i64 d2])).run Tryd.prog w = .ok (.bool false) w := fun w => by rw [neLk]; simp
        have HI := Lib.hid (And.intro kL1 (And.intro h1 hO))
        clear cP cR cc1 cc2 hV hZ hok hS hrun hO g1 h1 kL1
        go_wp2_with (at_builtin; refine wpList_append_run HRUN.out rfl _ _ rfl rfl rfl rfl ?_)
        (with_reducible refine (CO.out).mono ?_); rintro e w2 ⟨D, dd, rfl, _, rD, g2⟩
        have kL2 := HI.out.1.below g2 HI.out.1.lt
        have h2 := HI.out.2.1.trans (g2.mono HI.out.2.1.size)
        have rO := (HI.out.2.2.below g2).more g2.size
        have b0 : w2.cell? ⟨w.heap.size, 0, none⟩ = some (.int .i64 s) := kL2.cell 0
        have b1 : w2.cell? ⟨w.heap.size, 1, none⟩ = some (.bool a) := kL2.cell 1
        have b2 : w2.cell? ⟨w.heap.size, 2, none⟩ = some (.int .i64 m) := kL2.cell 2
        have b3 : w2.cell? ⟨w.heap.size, 3, none⟩ = some (.int .i64 d) := kL2.cell 3
        have H2 := Lib.hid (And.intro kL2 (And.intro h2 (And.intro rO rD)))
        clear kL2 h2 rO rD g2
        go_wp2_with fail
        (with_reducible refine (CP.out _ H2.out.2.2.1).mono ?_); rintro e w3 ⟨rfl, g3⟩
        clear b0 b1 b2 b3
        have g3 := g3.alloc g3.size (.cells #[.int .i64 s2, .bool a2, .int .i64 m2, .int .i64 d2] 76)
        have kN := Blk.new w3 76 #[.int .i64 s2, .bool a2, .int .i64 m2, .int .i64 d2]
        obtain ⟨W3, hW3⟩ : ∃ W3, w3.alloc (.cells #[.int .i64 s2, .bool a2, .int .i64 m2, .int .i64 d2] 76) = W3 := ⟨_, rfl⟩
        obtain ⟨G3, hG3⟩ : ∃ G3, w3.heap.size = G3 := ⟨_, rfl⟩
        rw [hW3] at g3 kN
        rw [hG3] at kN
        have kL3 := H2.out.1.below g3 H2.out.1.lt
        have h3 := H2.out.2.1.trans (g3.mono H2.out.2.1.size)
        have rO := (H2.out.2.2.1.below g3).more g3.size
        have rD := (H2.out.2.2.2.below g3).more g3.size
        have b0 : W3.cell? ⟨w.heap.size, 0, none⟩ = some (.int .i64 s) := kL3.cell 0
        have b1 : W3.cell? ⟨w.heap.size, 1, none⟩ = some (.bool a) := kL3.cell 1
        have b2 : W3.cell? ⟨w.heap.size, 2, none⟩ = some (.int .i64 m) := kL3.cell 2
        have b3 : W3.cell? ⟨w.heap.size, 3, none⟩ = some (.int .i64 d) := kL3.cell 3
        have H3 := Lib.hid (And.intro kN (And.intro h3 (And.intro rO rD)))
        clear kL3 h3 rO rD g3 kN
        go_wp2_with fail
        (with_reducible refine (CR.out _ ((HR.out.below H3.out.2.1).more H3.out.2.1.size)).mono ?_); rintro e w4 ⟨rfl, g4⟩
        clear b0 b1 b2 b3 hW3 hG3
        have g4 := g4.alloc g4.size (.cells #[.int .i64 s2, .bool a2, .int .i64 m2, .int .i64 d2] 76)
        have kM := Blk.new w4 76 #[.int .i64 s2, .bool a2, .int .i64 m2, .int .i64 d2]
        obtain ⟨W4, hW4⟩ : ∃ W4, w4.alloc (.cells #[.int .i64 s2, .bool a2, .int .i64 m2, .int .i64 d2] 76) = W4 := ⟨_, rfl⟩
        obtain ⟨G4, hG4⟩ : ∃ G4, w4.heap.size = G4 := ⟨_, rfl⟩
        rw [hW4] at g4 kM
        rw [hG4] at kM
        have kN := H3.out.1.below g4 H3.out.1.lt
        have h4 := H3.out.2.1.trans (g4.mono H3.out.2.1.size)
        have rO := (H3.out.2.2.1.below g4).more g4.size
        have rD := (H3.out.2.2.2.below g4).more g4.size
        have b0 : W4.cell? ⟨G3, 0, none⟩ = some (.int .i64 s2) := kN.cell 0
        have b1 : W4.cell? ⟨G3, 1, none⟩ = some (.bool a2) := kN.cell 1
        have b2 : W4.cell? ⟨G3, 2, none⟩ = some (.int .i64 m2) := kN.cell 2
        have b3 : W4.cell? ⟨G3, 3, none⟩ = some (.int .i64 d2) := kN.cell 3
        have y0 : W4.cell? ⟨G4, 0, none⟩ = some (.int .i64 s2) := kM.cell 0
        have y1 : W4.cell? ⟨G4, 1, none⟩ = some (.bool a2) := kM.cell 1
        have y2 : W4.cell? ⟨G4, 2, none⟩ = some (.int .i64 m2) := kM.cell 2
        have y3 : W4.cell? ⟨G4, 3, none⟩ = some (.int .i64 d2) := kM.cell 3
        have H4 := Lib.hid (And.intro h4 (And.intro rO rD))
        clear h4 rO rD g4 kN kM
        go_wp2_with fail
        (with_reducible refine (CC1.out _ _ _ H4.out.2.2).mono ?_); rintro e w5 ⟨rfl, g5⟩
        clear b0 b1 b2 b3 y0 y1 y2 y3 hW4 hG4
        have h5 := H4.out.1.trans (g5.mono H4.out.1.size)
        have rO := (H4.out.2.1.below g5).more g5.size
        have rD := (H4.out.2.2.below g5).more g5.size
        have H5 := Lib.hid (And.intro h5 (And.intro rO rD))
        clear h5 rO rD g5
        go_wp2_with fail
        (with_reducible refine (CC2.out _ ((HT.out.below H5.out.1).more H5.out.1.size)).mono ?_); rintro e w6 ⟨rfl, g6⟩
        have h6 := H5.out.1.trans (g6.mono H5.out.1.size)
        have rO := (H5.out.2.1.below g6).more g6.size
        have cF := SameFields_any D B l.length l.length dd q l l w6 ((H5.out.2.2.below g6).more g6.size) ((HT.out.below h6).more h6.size) (by omega) (by omega)
        rw [decide_eq_true rfl] at cF
        have CF := Lib.hid cF
        have H6 := Lib.hid (And.intro h6 rO)
        clear h6 rO g6 cF
        go_wp2_with fail
        (with_reducible refine (CF.out).mono ?_); rintro e w7 ⟨rfl, m7, rfl⟩
        have h7 := below_drewN H6.out.1 m7
        have k7 : Below w6.heap.size w6 (w6.drewN m7) := below_drewN (Below.refl _ w6) m7
        have rO := (H6.out.2.below k7).more k7.size
        have rA := HR.out.below h7
        have H7 := Lib.hid (And.intro h7 (And.intro rO rA))
        clear h7 k7 rO rA
        generalize w6.drewN m7 = W7 at H7 ⊢
        go_wp2_with fail
        go_loopw [16] (fun i wr => ∃ k j : Nat, i = .int .i64 k ∧ k ≤ es.length ∧ wr = W7.drewN j) (fun i _ => es.length - (intOf i).toNat)
        case atStart => exact ⟨0, 0, rfl, by omega, rfl⟩
        case round =>
          obtain ⟨k, j, rfl, hk, rfl⟩ := hrel
          by_cases hlt : k < es.length
          · obtain ⟨b, o, rfl, _, z1⟩ := H7.out.2.1.ev (by omega)
            obtain ⟨b', o', rfl, _, z2⟩ := H7.out.2.2.ev (by omega)
            obtain ⟨c0, c1, c2⟩ := z1 k hlt
            obtain ⟨d0, d1, d2⟩ := z2 k hlt
            obtain ⟨x, hx⟩ : ∃ x, es[k] = x := ⟨_, rfl⟩
            rw [hx] at c0 c1 c2 d0 d1 d2
            have i0 : (0 : Int) ≤ (k : Int) := by omega
            have i1 : (k : Int) < (es.length : Int) := by omega
            have hqe : ∀ w, (binOp .neq 81 (.agg #[.int .i64 x.1, .int .i64 x.2.1, .bool x.2.2]) (.agg #[.int .i64 x.1, .int .i64 x.2.1, .bool x.2.2])).run Tryd.prog w = .ok (.bool false) w := fun w => neEv _ _ _ w
            clear hx z1 z2
            go_wp2_with fail
            go_quiet (fail)
            go_wp2_with fail
            exact ⟨⟨k + 1, _, by go_num, by omega, rfl⟩, by simp [intOf]; omega⟩
          · have hkl : k = es.length := by omega
            subst hkl
            have hd4 : decide ((es.length : Int) < (es.length : Int)) = false := by simp
            have h8 := below_drewN H7.out.1 j
            go_wp2_with fail
            (with_reducible refine (AW.out _).mono ?_); rintro e w8 ⟨rfl, g8⟩
            go_wp2_with fail
            go_ret
            exact ⟨rfl, h8.trans (g8.mono h8.size)⟩
end
end Go.Proofs.YtepemdmjbfoiaaaDoor
