/-
  The parser of requests in memory: its block, the fields of the request at hand, the events that were told.
-/
import Derived.Test.YtencphfhpnljlaaGreatDoorWi0
import Derived.Test.YtencphfhpnljlaaGreatDoorWg3
import Derived.Test.YtencphfhpnljlaaGreatDoorWg4
import Derived.Outline
namespace Go.Proofs.YtencphfhpnljlaaGreatDoor
open Go.RowKit

theorem own_own_ne {w : World} {b1 b2 n1 n2 s1 s2 : Nat} {e1 e2 : TypeId} {v1 v2 : Value} {x1 x2 : List Value} (h1 : w.ownsRow b1 e1 s1 v1 n1 x1) (h2 : w.ownsRow b2 e2 s2 v2 n2 x2) (hne : e1 ≠ e2) : v1.ownBlock = none ∨ v1.ownBlock ≠ v2.ownBlock := by
  rcases h2.2 with ⟨rfl, _⟩ | ⟨g, cap, cur, rfl, _, hh, _⟩
  · cases hv : v1.ownBlock with
    | none => exact .inl rfl
    | some g => exact .inr (by simp [Value.ownBlock])
  · exact .inr (by
      have := own_blk_ne (t := e2) (cs := cur) h1 hh hne
      simpa [Value.ownBlock] using this)
theorem own_leW {w : World} {base base' n s : Nat} {e : TypeId} {v : Value} {xs : List Value} (h : w.ownsRow base e s v n xs) (hb : base' ≤ base) : w.ownsRow base' e s v n xs := by
  refine ⟨h.1, ?_⟩
  rcases h.2 with hn | ⟨g, cap, cur, hv, hg, rest⟩
  · exact .inl hn
  · exact .inr ⟨g, cap, cur, hv, Nat.le_trans hb hg, rest⟩
abbrev EvM := EvP × Option Addr × Nat
/-- an event's cells -/
def evC (x : EvM) : List Value := [.int .i64 (x.1.kind : Nat), .string (bs x.1.meth), .string (bs x.1.tgt), .slice x.2.1 x.1.flds.length x.2.2, .string (bs x.1.body), .int .i64 (x.1.status : Nat)]
def evsC (l : List EvM) : List Value := l.flatMap evC
theorem evC_len (x : EvM) : (evC x).length = 6 := rfl
theorem evsC_len (l : List EvM) : (evsC l).length = l.length * 6 := by
  unfold evsC
  induction l with
  | nil => rfl
  | cons f l ih => rw [List.flatMap_cons, List.length_append, ih, evC_len]; simp; omega
theorem evsC_app (l m : List EvM) : evsC (l ++ m) = evsC l ++ evsC m := by simp [evsC]
theorem evsC_get (l : List EvM) (k : Nat) (h : k < l.length) (i : Nat) (hi : i < 6) : (evsC l)[k * 6 + i]? = (evC l[k])[i]? := by
  induction l generalizing k with
  | nil => simp at h
  | cons f l ih =>
    unfold evsC at ih ⊢
    rw [List.flatMap_cons]
    cases k with
    | zero => rw [List.getElem?_append_left (by rw [evC_len]; omega)]; simp
    | succ k =>
      have h' : k < l.length := by simpa using h
      have := ih k h'
      rw [List.getElem?_append_right (by rw [evC_len]; omega), evC_len, show (k + 1) * 6 + i - 6 = k * 6 + i by omega]
      simpa using this
theorem evC_one (x : EvM) : ∀ u ∈ evC x, u.oneCell' = true := by
  intro u hu
  unfold evC at hu
  simp only [List.mem_cons, List.not_mem_nil, or_false] at hu
  rcases hu with rfl | rfl | rfl | rfl | rfl | rfl <;> rfl
theorem Reads.elen {w : World} {B n : Nat} {A : Option Addr} {l : List EvM} (h : Reads w B 6 A n (evsC l)) : n = l.length := by
  have := h.1; rw [evsC_len] at this; omega
/-- an event of a list of events -/
theorem Reads.ev {w : World} {B n : Nat} {A : Option Addr} {l : List EvM} (h : Reads w B 6 A n (evsC l)) (k : Nat) (hk : k < l.length) :
    ∃ b o, A = some ⟨b, o, none⟩ ∧ b < B ∧ w.cell? ⟨b, o + k * 6, none⟩ = some (.int .i64 (l[k].1.kind : Nat)) ∧ w.cell? ⟨b, o + k * 6 + 1, none⟩ = some (.string (bs l[k].1.meth)) ∧ w.cell? ⟨b, o + k * 6 + 2, none⟩ = some (.string (bs l[k].1.tgt)) ∧
      w.cell? ⟨b, o + k * 6 + 3, none⟩ = some (.slice l[k].2.1 l[k].1.flds.length l[k].2.2) ∧ w.cell? ⟨b, o + k * 6 + 4, none⟩ = some (.string (bs l[k].1.body)) ∧ w.cell? ⟨b, o + k * 6 + 5, none⟩ = some (.int .i64 (l[k].1.status : Nat)) := by
  have hn := h.elen
  obtain ⟨ad, e, hb, hc⟩ := h.2 (by omega)
  obtain ⟨b, o, s⟩ := ad
  have hs : s = none := by
    cases s with
    | none => rfl
    | some q =>
      have h0 := hc 0 _ (by rw [show 0 = 0 * 6 + 0 by rfl, evsC_get l 0 (by omega) 0 (by omega)]; rfl)
      simp only [Addr.add, if_true] at h0
      unfold World.cell? at h0
      simp only [Option.isSome_some, if_true] at h0
      split at h0 <;> simp at h0
  subst hs
  have c' : ∀ i, i < 6 → ∀ u, (evC l[k])[i]? = some u → w.cell? ⟨b, o + k * 6 + i, none⟩ = some u := fun i hi u hu => by
    have := hc (k * 6 + i) u (by rw [evsC_get l k hk i hi]; exact hu)
    rw [Addr.add_lit] at this
    rw [Nat.add_assoc]; exact this
  exact ⟨b, o, e, hb, c' 0 (by omega) _ rfl, c' 1 (by omega) _ rfl, c' 2 (by omega) _ rfl, c' 3 (by omega) _ rfl, c' 4 (by omega) _ rfl, c' 5 (by omega) _ rfl⟩
theorem infoEv : (Tryz.prog.info? 41).map (fun i => (i.zero, i.size, i.bytes)) = some (some (.agg #[.int .i64 0, .string .empty, .string .empty, .slice none 0 0, .string .empty, .int .i64 0]), 6, 88) := by kernel_rfl
/-- one event more -/
theorem app_ev {base : Nat} {W : World} {v : Value} {n : Nat} {xs : List EvM} (ho : W.ownsRow base 41 6 v n (evsC xs)) (hb : base ≤ W.heap.size) (hl : n ≤ 1000000) (y : EvM) :
    ∃ A c w5, (Builtin.append_ #[35, 35] 35 #[v, .slice (some ⟨W.heap.size, 0, none⟩) 1 1]).run Tryz.prog (W.alloc (.cells #[.int .i64 (y.1.kind : Nat), .string (bs y.1.meth), .string (bs y.1.tgt), .slice y.2.1 y.1.flds.length y.2.2, .string (bs y.1.body), .int .i64 (y.1.status : Nat)] 41)) = .ok (.slice A (n + 1) c) w5 ∧ w5.ownsRow base 41 6 (.slice A (n + 1) c) (n + 1) (evsC (xs ++ [y])) ∧
      Below base W w5 ∧ W.grownBy w5 v.ownBlock := by
  obtain ⟨i0, hi, hz0, hz1, hz2⟩ := info_parts infoEv
  obtain ⟨v', w5, hrun, hown, hg, hlt, _⟩ := app_one (P := Tryz.prog) 35 35 41 i0 (.agg #[.int .i64 0, .string .empty, .string .empty, .slice none 0 0, .string .empty, .int .i64 0]) 6 88 Tryz.underlying35 hi hz0 hz1 hz2 rfl (by decide) base W v _ _ ho #[.int .i64 (y.1.kind : Nat), .string (bs y.1.meth), .string (bs y.1.tgt), .slice y.2.1 y.1.flds.length y.2.2, .string (bs y.1.body), .int .i64 (y.1.status : Nat)] rfl (evC_one y) 41 (by unfold maxLen; omega) (by omega) hb
  obtain ⟨A, c, rfl⟩ := own_slice hown
  refine ⟨A, c, w5, hrun, ?_, (Below.refl base W).grown hg hb (own_ge ho), hg⟩
  rw [evsC_app]; exact hown
/-- the lists of fields of some events, in memory of their own -/
def HeldE (w : World) (base : Nat) (l : List EvM) : Prop := ∀ x ∈ l, w.ownsRow base 49 2 (.slice x.2.1 x.1.flds.length x.2.2) x.1.flds.length (fldsC x.1.flds)
theorem HeldE.below {w w' : World} {base : Nat} {l : List EvM} (h : HeldE w base l) (hb : Below w.heap.size w w') : HeldE w' base l := fun x hx => own_below (h x hx) hb
theorem HeldE.grown {w w' : World} {base b2 n s : Nat} {e : TypeId} {v : Value} {xs : List Value} {l : List EvM} (h : HeldE w base l) (ho : w.ownsRow b2 e s v n xs) (hne : 49 ≠ e) (hg : w.grownBy w' v.ownBlock) : HeldE w' base l := fun x hx =>
  (h x hx).kept hg (own_own_ne (h x hx) ho hne)
theorem own_only {w w' : World} {base n s g : Nat} {e T : TypeId} {cs : Array Value} {v : Value} {xs : List Value} (h : w.ownsRow base e s v n xs) (hB : Blk w g T cs) (hne : e ≠ T) (hg : w.grownBy w' (some g)) : w'.ownsRow base e s v n xs :=
  h.kept hg (.inr (own_blk_ne h hB hne))
theorem HeldE.only {w w' : World} {base g : Nat} {T : TypeId} {cs : Array Value} {l : List EvM} (h : HeldE w base l) (hB : Blk w g T cs) (hne : 49 ≠ T) (hg : w.grownBy w' (some g)) : HeldE w' base l := fun x hx => own_only (h x hx) hB hne hg
theorem HeldE.app {w : World} {base : Nat} {l : List EvM} (h : HeldE w base l) (y : EvM) (hy : w.ownsRow base 49 2 (.slice y.2.1 y.1.flds.length y.2.2) y.1.flds.length (fldsC y.1.flds)) : HeldE w base (l ++ [y]) := fun x hx => by
  rcases List.mem_append.1 hx with hx | hx
  · exact h x hx
  · rw [List.mem_singleton.1 hx]; exact hy
theorem HeldE.reads {w : World} {base : Nat} {l : List EvM} (h : HeldE w base l) (k : Nat) (hk : k < l.length) : Reads w w.heap.size 2 l[k].2.1 l[k].1.flds.length (fldsC l[k].1.flds) := Reads.of_own (h _ (List.getElem_mem hk))

/-- the parser's cells -/
def wpA (at_ : Int) (text meth tgt : ByteArray) (f : Value) (body : ByteArray) (left c0 c1 c2 c3 : Int) (c4 c5 : ByteArray) (c6 c7 : Int) (ov : Bool) (o : Value) : Array Value :=
  #[.int .i64 at_, .string text, .string meth, .string tgt, f, .string body, .int .i64 left, .int .i64 c0, .int .i64 c1, .int .i64 c2, .int .i64 c3, .string c4, .string c5, .int .i64 c6, .int .i64 c7, .bool ov, o]
def wpV (p : WireP) (f o : Value) : Array Value :=
  wpA (p.at_ : Nat) (bs p.text) (bs p.meth) (bs p.tgt) f (bs p.body) (p.left : Nat) (p.chunks.st : Nat) (p.chunks.size : Nat) (p.chunks.digits : Nat) (p.chunks.left : Nat) (bs p.chunks.body) (bs p.chunks.line) (p.chunks.lines : Nat) (p.chunks.status : Nat) p.over o
theorem only_past {a w w' : World} {row : Option Nat} (h : a.grownBy w row) (hb : Below a.heap.size w w') : a.grownBy w' row :=
  ⟨hb.os.trans h.os, hb.tape.trans h.tape, hb.output.trans h.output, Nat.le_trans h.size hb.size, fun i hi hne => (hb.block i hi).trans (h.block i hi hne)⟩
/-- a parser in memory: of the world w0 its block alone has turned, and the events lie behind w0's memory -/
structure ParW (w0 w : World) (g : Nat) (p : WireP) (evs : List EvP) (A : Option Addr) (c : Nat) (O : Option Addr) (oc : Nat) (X : List EvM) : Prop where
  blk : Blk w g 72 (wpV p (.slice A p.flds.length c) (.slice O X.length oc))
  flds : w.ownsRow 0 49 2 (.slice A p.flds.length c) p.flds.length (fldsC p.flds)
  out : w.ownsRow w0.heap.size 41 6 (.slice O X.length oc) X.length (evsC X)
  held : HeldE w 0 X
  evs : X.map (·.1) = evs
  only : w0.grownBy w (some g)
theorem ParW.later {w0 w w' : World} {g : Nat} {p : WireP} {evs : List EvP} {A O : Option Addr} {c oc : Nat} {X : List EvM} (h : ParW w0 w g p evs A c O oc X) (hb : Below w.heap.size w w') : ParW w0 w' g p evs A c O oc X :=
  ⟨h.blk.below hb h.blk.lt, own_below h.flds hb, own_below h.out hb, h.held.below hb, h.evs, Lib.grownBy_trans h.only (only_of_below hb (some g))⟩
/-- only the parser's block has turned -/
theorem ParW.turn {w0 w w' : World} {g : Nat} {p q : WireP} {evs : List EvP} {A A' O : Option Addr} {c c' oc : Nat} {X : List EvM} (h : ParW w0 w g p evs A c O oc X) (hg : w.grownBy w' (some g))
    (hb : Blk w' g 72 (wpV q (.slice A' q.flds.length c') (.slice O X.length oc))) (hf : w'.ownsRow 0 49 2 (.slice A' q.flds.length c') q.flds.length (fldsC q.flds)) : ParW w0 w' g q evs A' c' O oc X :=
  ⟨hb, hf, own_only h.out h.blk (by decide) hg, h.held.only h.blk (by decide) hg, h.evs, Lib.grownBy_trans h.only hg⟩
def ParS (w0 w : World) (g : Nat) (p : WireP) (evs : List EvP) : Prop := ∃ A c O oc X, ParW w0 w g p evs A c O oc X
end Go.Proofs.YtencphfhpnljlaaGreatDoor
