/-
  The contract of package token's List: the loop over the elements.
-/
import Derived.Test.YtpdohlnobbimaaaDoorTl1
import Derived.Maps.AppendAt
namespace Go.Proofs.YtpdohlnobbimaaaDoor
open Go.RowKit Go.Shelf
attribute [local go_sem] Oper.semAt_some

theorem infoStr : (Tryd.prog.info? 9).map (fun i => (i.zero, i.size, i.bytes)) = some (some (.string .empty), 1, 16) := by kernel_rfl
def pickB (pre : List ByteArray) : List (List UInt8) := (pre.map (·.data.toList)).filterMap pickE
def okB (pre : List ByteArray) : Prop := ∀ x ∈ pre, badE x.data.toList = false

theorem pickB_snoc (pre : List ByteArray) (x : ByteArray) : pickB (pre ++ [x]) = pickB pre ++ (pickE x.data.toList).toList := by
  simp [pickB, List.filterMap_append, List.filterMap_cons]
  cases pickE x.data.toList <;> simp
theorem pickB_len (pre : List ByteArray) : (pickB pre).length ≤ pre.length := by
  unfold pickB; exact Nat.le_trans (List.length_filterMap_le _ _) (by simp)
theorem okB_snoc {pre : List ByteArray} {x : ByteArray} (h : okB pre) (hx : badE x.data.toList = false) : okB (pre ++ [x]) := by
  intro y hy
  rcases List.mem_append.1 hy with hy | hy
  · exact h y hy
  · rw [List.mem_singleton.1 hy]; exact hx

/-- between two rounds: the results' boxes as they were made, the box of what has been collected, what lay lies -/
def LI (w : World) (H : Nat) (pre : List ByteArray) (W : World) : Prop :=
  (okB pre ∧ Boxed W w.heap.size 26 (.slice none 0 0) ∧ Boxed W (w.heap.size + 1) 27 (.int .i64 0) ∧ H + 4 ≤ W.heap.size) ∧
  (∃ v, Boxed W H 26 v ∧ W.ownsRow (H + 4) 9 1 v (pickB pre).length (strs (pickB pre)) ∧ True) ∧ Below w.heap.size w W
/-- left by the return of the error -/
def LX (w : World) (c : Code) (pre : List ByteArray) (W : World) : Prop :=
  (c = .ret ∧ ¬ okB pre ∧ Boxed W w.heap.size 26 (.slice none 0 0) ∧ Boxed W (w.heap.size + 1) 27 (.int .i64 3)) ∧ Below w.heap.size w W
theorem boxed_own' {β : Type} (B : Nat) (t : TypeId) (v : β → Value) : Own (fun s W => Boxed W B t (v s)) := by
  intro s X Y row h hg hr
  exact h.kept hg fun e => by
    obtain ⟨o, ho, hc⟩ := hr B e.symm
    rw [show X.heap[B]? = _ from h] at ho; cases ho; cases hc
theorem LI_own (w : World) (H N : Nat) (hN : w.heap.size ≤ N) : OwnFrom N (LI w H) := by
  refine OwnFrom.and (Own.from (fun s X Y row h hg hr => ⟨h.1, boxed_own' (β := Unit) _ _ (fun _ => .slice none 0 0) () X Y row h.2.1 hg hr, boxed_own' (β := Unit) _ _ (fun _ => .int .i64 0) () X Y row h.2.2.1 hg hr, Nat.le_trans h.2.2.2 hg.size⟩) _)
    (OwnFrom.and (Own.from (holdsRow_own (H + 4) H 26 9 1 (fun pre => (pickB pre).length) (fun pre => strs (pickB pre)) (fun _ _ => True)) _) (ownFrom_below (Nat.le_refl _) hN))
theorem LX_own (w : World) (c : Code) (N : Nat) (hN : w.heap.size ≤ N) : OwnFrom N (LX w c) := by
  refine OwnFrom.and (Own.from (fun s X Y row h hg hr => ⟨h.1, h.2.1, boxed_own' (β := Unit) _ _ (fun _ => .slice none 0 0) () X Y row h.2.2.1 hg hr, boxed_own' (β := Unit) _ _ (fun _ => .int .i64 3) () X Y row h.2.2.2 hg hr⟩) _)
    (ownFrom_below (Nat.le_refl _) hN)
theorem LI_st (w : World) (H : Nat) (hH : w.heap.size + 1 < H) (pre : List ByteArray) (A B : World) (h : LI w H pre A) (hs : splitSt (H + 1) A B) : LI w H pre B := by
  obtain ⟨⟨h1, h2, h3, hz⟩, ⟨v, h4, h5, _⟩, h6⟩ := h
  have ne : ∀ {k : Nat}, k ≠ H + 1 → some k ≠ some (H + 1) := fun hk e => hk (by injection e)
  refine ⟨⟨h1, h2.kept hs.1 (ne (by omega)), h3.kept hs.1 (ne (by omega)), Nat.le_trans hz hs.1.size⟩, ⟨v, h4.kept hs.1 (ne (by omega)), h5.kept hs.1 (.inr ?_), trivial⟩, h6.grown hs.1 h6.size fun k e => by injection e; omega⟩
  intro e
  have := own_ge h5 _ e
  omega
theorem LI_below {w : World} {H : Nat} {pre pre' : List ByteArray} {A B : World} (h : LI w H pre A) (hb : Below A.heap.size A B) (hok : okB pre → okB pre') (hp : pickB pre' = pickB pre) : LI w H pre' B := by
  obtain ⟨⟨h1, h2, h3, hz⟩, ⟨v, h4, h5, _⟩, h6⟩ := h
  have kb : ∀ {k : Nat} {t : TypeId} {u : Value}, Boxed A k t u → Boxed B k t u := fun hk => (hb.block _ hk.lt).trans hk
  refine ⟨⟨hok h1, kb h2, kb h3, Nat.le_trans hz hb.size⟩, ⟨v, kb h4, ?_, trivial⟩, h6.trans (hb.mono h6.size)⟩
  rw [hp]
  exact h5.kept (only_of_below hb none) (by
    rcases h5.2 with ⟨rfl, _⟩ | ⟨g, cap, cur, rfl, _⟩
    · exact .inl rfl
    · exact .inr (by simp [Value.ownBlock]))
/-- one more token collected -/
theorem LI_add {w : World} {H : Nat} {pre : List ByteArray} {x : ByteArray} {A W5 : World} {v v' : Value} {y : List UInt8} (hH : w.heap.size + 1 < H) (h1 : okB pre) (h2 : Boxed A w.heap.size 26 (.slice none 0 0)) (h3 : Boxed A (w.heap.size + 1) 27 (.int .i64 0))
    (hz : H + 4 ≤ A.heap.size) (h4 : Boxed A H 26 v) (h5 : A.ownsRow (H + 4) 9 1 v (pickB pre).length (strs (pickB pre))) (h6 : Below w.heap.size w A) (hx : badE x.data.toList = false) (hp : pickE x.data.toList = some y)
    (hown : W5.ownsRow (H + 4) 9 1 v' ((pickB pre).length + 1) (strs (pickB pre) ++ [.string (bs y)])) (hg : A.grownBy W5 v.ownBlock) :
    Boxed W5 H 26 v ∧ KeepsFrom (H + 4) A (W5.setCell ⟨H, 0, none⟩ v') ∧ splitKp (H + 1) A (W5.setCell ⟨H, 0, none⟩ v') ∧ LI w H (pre ++ [x]) (W5.setCell ⟨H, 0, none⟩ v') := by
  have n2 := h2.not_row (show (26 : TypeId) ≠ 9 by decide) h5
  have n3 := h3.not_row (show (27 : TypeId) ≠ 9 by decide) h5
  have n4 := h4.not_row (show (26 : TypeId) ≠ 9 by decide) h5
  have b4 : Boxed W5 H 26 v := h4.kept hg n4
  have m4 := b4.not_row (show (26 : TypeId) ≠ 9 by decide) hown
  have ne : ∀ {k : Nat}, k ≠ H → some k ≠ some H := fun hk e => hk (by injection e)
  have e : pickB (pre ++ [x]) = pickB pre ++ [y] := by rw [pickB_snoc, hp]; rfl
  have hge := own_ge h5
  refine ⟨b4, ?_, ?_, ⟨⟨okB_snoc h1 hx, (h2.kept hg n2).kept (grownBy_setCell' _ _ _) (ne (by omega)), (h3.kept hg n3).kept (grownBy_setCell' _ _ _) (ne (by omega)), ?_⟩,
    ⟨v', b4.set v', ?_, trivial⟩, ?_⟩⟩
  · exact (keepsFrom_grown h5 hg).trans (keepsFrom_set _ _ _ _)
  · exact splitKp_trans (splitKp_grown hg fun g eg => by have := hge g eg; omega) (splitKp_set _ _ _ (by omega))
  · exact Nat.le_trans hz (Nat.le_trans hg.size (grownBy_setCell' W5 H v').size)
  · rw [e, strs_app, List.length_append]
    exact hown.kept (grownBy_setCell' W5 H v') (.inr m4.symm)
  · exact (h6.grown hg h6.size fun k ek => by have := hge k ek; omega).setCell (p := ⟨H, 0, none⟩) (by simp only; omega) v'

end Go.Proofs.YtpdohlnobbimaaaDoor
