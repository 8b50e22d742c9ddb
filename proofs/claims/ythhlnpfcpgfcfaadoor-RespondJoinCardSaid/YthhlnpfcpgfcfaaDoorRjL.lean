/-
  Lists of responses in memory: their cells, what is appended, what the lists of fields in them own.
-/
import Derived.Test.YthhlnpfcpgfcfaaDoorRjP
namespace Go.Proofs.YthhlnpfcpgfcfaaDoor
open Go.RowKit

abbrev RJ := Rsp × Option Addr × Nat
def rcJ (x : RJ) : List Value := [.int .i64 x.1.code, .slice x.2.1 x.1.flds.length x.2.2, .string (bs x.1.body), .bool x.1.close, .bool x.1.head]
def cellsJ (l : List RJ) : List Value := l.flatMap rcJ
theorem rcJ_len (x : RJ) : (rcJ x).length = 5 := rfl
theorem cellsJ_len (l : List RJ) : (cellsJ l).length = l.length * 5 := by
  unfold cellsJ
  induction l with
  | nil => rfl
  | cons f l ih => rw [List.flatMap_cons, List.length_append, ih, rcJ_len]; simp; omega
theorem cellsJ_app (l m : List RJ) : cellsJ (l ++ m) = cellsJ l ++ cellsJ m := by simp [cellsJ]
theorem cellsJ_get (l : List RJ) (k : Nat) (h : k < l.length) (i : Nat) (hi : i < 5) : (cellsJ l)[k * 5 + i]? = (rcJ l[k])[i]? := by
  induction l generalizing k with
  | nil => simp at h
  | cons f l ih =>
    unfold cellsJ at ih ⊢
    rw [List.flatMap_cons]
    cases k with
    | zero => rw [List.getElem?_append_left (by rw [rcJ_len]; omega)]; simp
    | succ k =>
      have h' : k < l.length := by simpa using h
      have := ih k h'
      rw [List.getElem?_append_right (by rw [rcJ_len]; omega), rcJ_len, show (k + 1) * 5 + i - 5 = k * 5 + i by omega]
      simpa using this
theorem rcJ_one (x : RJ) : ∀ u ∈ rcJ x, u.oneCell' = true := by
  intro u hu
  unfold rcJ at hu
  simp only [List.mem_cons, List.not_mem_nil, or_false] at hu
  rcases hu with rfl | rfl | rfl | rfl | rfl <;> rfl
theorem Reads.jlen {w : World} {B n : Nat} {A : Option Addr} {l : List RJ} (h : Reads w B 5 A n (cellsJ l)) : n = l.length := by
  have := h.1; rw [cellsJ_len] at this; omega
/-- a response of a list of responses -/
theorem Reads.rj {w : World} {B n : Nat} {A : Option Addr} {l : List RJ} (h : Reads w B 5 A n (cellsJ l)) (k : Nat) (hk : k < l.length) :
    ∃ b o, A = some ⟨b, o, none⟩ ∧ b < B ∧ w.cell? ⟨b, o + k * 5, none⟩ = some (.int .i64 l[k].1.code) ∧ w.cell? ⟨b, o + k * 5 + 1, none⟩ = some (.slice l[k].2.1 l[k].1.flds.length l[k].2.2) ∧
      w.cell? ⟨b, o + k * 5 + 2, none⟩ = some (.string (bs l[k].1.body)) ∧ w.cell? ⟨b, o + k * 5 + 3, none⟩ = some (.bool l[k].1.close) ∧ w.cell? ⟨b, o + k * 5 + 4, none⟩ = some (.bool l[k].1.head) := by
  have hn := h.jlen
  obtain ⟨ad, e, hb, hc⟩ := h.2 (by omega)
  obtain ⟨b, o, s⟩ := ad
  have hs : s = none := by
    cases s with
    | none => rfl
    | some q =>
      have h0 := hc 0 _ (by rw [show 0 = 0 * 5 + 0 by rfl, cellsJ_get l 0 (by omega) 0 (by omega)]; rfl)
      simp only [Addr.add, if_true] at h0
      unfold World.cell? at h0
      simp only [Option.isSome_some, if_true] at h0
      split at h0 <;> simp at h0
  subst hs
  have c := fun i (hi : i < 5) u (hu : (rcJ l[k])[i]? = some u) => hc (k * 5 + i) u (by rw [cellsJ_get l k hk i hi]; exact hu)
  have c' : ∀ i, i < 5 → ∀ u, (rcJ l[k])[i]? = some u → w.cell? ⟨b, o + k * 5 + i, none⟩ = some u := fun i hi u hu => by
    have := c i hi u hu
    rw [Addr.add_lit] at this
    rw [Nat.add_assoc]; exact this
  exact ⟨b, o, e, hb, c' 0 (by omega) _ rfl, c' 1 (by omega) _ rfl, c' 2 (by omega) _ rfl, c' 3 (by omega) _ rfl, c' 4 (by omega) _ rfl⟩
theorem infoRspJ : (Tryd.prog.info? 24).map (fun i => (i.zero, i.size, i.bytes)) = some (some (.agg #[.int .i64 0, .slice none 0 0, .string .empty, .bool false, .bool false]), 5, 56) := by kernel_rfl
theorem infoBoolJ : (Tryd.prog.info? 4).map (fun i => (i.zero, i.size, i.bytes)) = some (some (.bool false), 1, 1) := by kernel_rfl
/-- one response more -/
theorem app_rspJ {base : Nat} {W : World} {v : Value} {n : Nat} {xs : List RJ} (ho : W.ownsRow base 24 5 v n (cellsJ xs)) (hb : base ≤ W.heap.size) (hl : n ≤ 1000) (y : RJ) :
    ∃ A c w5, (Builtin.append_ #[38, 38] 38 #[v, .slice (some ⟨W.heap.size, 0, none⟩) 1 1]).run Tryd.prog (W.alloc (.cells #[.int .i64 y.1.code, .slice y.2.1 y.1.flds.length y.2.2, .string (bs y.1.body), .bool y.1.close, .bool y.1.head] 24)) = .ok (.slice A (n + 1) c) w5 ∧ w5.ownsRow base 24 5 (.slice A (n + 1) c) (n + 1) (cellsJ (xs ++ [y])) ∧
      Below base W w5 ∧ W.grownBy w5 v.ownBlock := by
  obtain ⟨i0, hi, hz0, hz1, hz2⟩ := info_parts infoRspJ
  obtain ⟨v', w5, hrun, hown, hg, hlt, _⟩ := app_one (P := Tryd.prog) 38 38 24 i0 (.agg #[.int .i64 0, .slice none 0 0, .string .empty, .bool false, .bool false]) 5 56 Tryd.underlying38 hi hz0 hz1 hz2 rfl (by decide) base W v _ _ ho #[.int .i64 y.1.code, .slice y.2.1 y.1.flds.length y.2.2, .string (bs y.1.body), .bool y.1.close, .bool y.1.head] rfl (rcJ_one y) 24 (by unfold maxLen; omega) (by omega) hb
  obtain ⟨A, c, rfl⟩ := own_slice hown
  refine ⟨A, c, w5, hrun, ?_, (Below.refl base W).grown hg hb (own_ge ho), hg⟩
  rw [cellsJ_app]; exact hown
def boolsJ (l : List Bool) : List Value := l.map Value.bool
theorem boolsJ_len (l : List Bool) : (boolsJ l).length = l.length := by simp [boolsJ]
theorem boolsJ_get (l : List Bool) (k : Nat) (h : k < l.length) : (boolsJ l)[k]? = some (.bool l[k]) := by simp [boolsJ, h]
theorem app_boolJ {base : Nat} {W : World} {v : Value} {n : Nat} {xs : List Bool} (ho : W.ownsRow base 4 1 v n (boolsJ xs)) (hb : base ≤ W.heap.size) (hl : n ≤ 1000) (y : Bool) :
    ∃ A c w5, (Builtin.append_ #[39, 39] 39 #[v, .slice (some ⟨W.heap.size, 0, none⟩) 1 1]).run Tryd.prog (W.alloc (.cells #[.bool y] 4)) = .ok (.slice A (n + 1) c) w5 ∧ w5.ownsRow base 4 1 (.slice A (n + 1) c) (n + 1) (boolsJ (xs ++ [y])) ∧
      Below base W w5 ∧ W.grownBy w5 v.ownBlock := by
  obtain ⟨i0, hi, hz0, hz1, hz2⟩ := info_parts infoBoolJ
  obtain ⟨v', w5, hrun, hown, hg, hlt, _⟩ := app_one (P := Tryd.prog) 39 39 4 i0 (.bool false) 1 1 Tryd.underlying39 hi hz0 hz1 hz2 rfl (by decide) base W v _ _ ho #[.bool y] rfl (by intro u hu; simp at hu; subst hu; rfl) 4 (by unfold maxLen; omega) (by omega) hb
  obtain ⟨A, c, rfl⟩ := own_slice hown
  refine ⟨A, c, w5, hrun, ?_, (Below.refl base W).grown hg hb (own_ge ho), hg⟩
  rw [show boolsJ (xs ++ [y]) = boolsJ xs ++ [.bool y] by simp [boolsJ]]; exact hown
/-- rows of two types do not meet -/
theorem own_own_ne {w : World} {b1 b2 n1 n2 s1 s2 : Nat} {e1 e2 : TypeId} {v1 v2 : Value} {x1 x2 : List Value} (h1 : w.ownsRow b1 e1 s1 v1 n1 x1) (h2 : w.ownsRow b2 e2 s2 v2 n2 x2) (hne : e1 ≠ e2) : v1.ownBlock = none ∨ v1.ownBlock ≠ v2.ownBlock := by
  rcases h2.2 with ⟨rfl, _⟩ | ⟨g, cap, cur, rfl, _, hh, _⟩
  · cases hv : v1.ownBlock with
    | none => exact .inl rfl
    | some g => exact .inr (by simp [Value.ownBlock])
  · exact .inr (by
      have := own_blk_ne (t := e2) (cs := cur) h1 hh hne
      simpa [Value.ownBlock] using this)
/-- the lists of fields of some responses, in memory of their own -/
def HeldJ (w : World) (base : Nat) (l : List RJ) : Prop := ∀ x ∈ l, w.ownsRow base 47 2 (.slice x.2.1 x.1.flds.length x.2.2) x.1.flds.length (fldsC x.1.flds)
theorem HeldJ.below {w w' : World} {base : Nat} {l : List RJ} (h : HeldJ w base l) (hb : Below w.heap.size w w') : HeldJ w' base l := fun x hx => own_below (h x hx) hb
theorem HeldJ.grown {w w' : World} {base b2 n s : Nat} {e : TypeId} {v : Value} {xs : List Value} {l : List RJ} (h : HeldJ w base l) (ho : w.ownsRow b2 e s v n xs) (hne : 47 ≠ e) (hg : w.grownBy w' v.ownBlock) : HeldJ w' base l := fun x hx =>
  (h x hx).kept hg (own_own_ne (h x hx) ho hne)
theorem HeldJ.app {w : World} {base : Nat} {l : List RJ} (h : HeldJ w base l) (y : RJ) (hy : w.ownsRow base 47 2 (.slice y.2.1 y.1.flds.length y.2.2) y.1.flds.length (fldsC y.1.flds)) : HeldJ w base (l ++ [y]) := fun x hx => by
  rcases List.mem_append.1 hx with hx | hx
  · exact h x hx
  · rw [List.mem_singleton.1 hx]; exact hy
theorem HeldJ.reads {w : World} {base : Nat} {l : List RJ} (h : HeldJ w base l) (k : Nat) (hk : k < l.length) : Reads w w.heap.size 2 l[k].2.1 l[k].1.flds.length (fldsC l[k].1.flds) := Reads.of_own (h _ (List.getElem_mem hk))
end Go.Proofs.YthhlnpfcpgfcfaaDoor
