/-
  A loop over an iterator that keeps a state of its own in cells of the heap: the law, over a word (St) for the iterator's own steps between two rounds. Lemmas of no program.
-/
import Derived.RangeFuncBox
import Derived.RangeFuncLeaves
import Derived.Scope
import Derived.WalkMore
import Derived.OwnWalkIn
namespace Go.Proofs.YthhlnpfcpgfcfaaGreatDoor
open Go.RowKit

/-- what such an iterator is good for: G: its state where it begins; St: its own steps; Kp: what a round that goes on keeps; S: all has come; Sp: a part has come -/
def SeqSt {α : Type} (F : Fence) (n : Nat) (P : Program) (g : Nat) (lb : Array Value) (encs : α → Array Value) (G : World → Prop) (St Kp : World → World → Prop) (S Sp : List α → Prop) : Prop :=
  ∀ (l : Nat) (J Jx : List α → World → Prop) (W : World), G W → (∀ s A B, J s A → St A B → J s B) →
    (∀ pre x W1, J pre W1 → Sp (pre ++ [x]) → YieldAt F (n - 1) P l (encs x) W1 fun e W' =>
      (e = .returned (.bool true) ∧ J (pre ++ [x]) W' ∧ Kp W1 W') ∨ (e = .returned (.bool false) ∧ Jx (pre ++ [x]) W')) →
    J [] W →
    CallsIn F n P g (#[.func (.yield l) #[] #[]] ++ lb) W fun e W' => (∃ v, e = .returned v) ∧ ((∃ xs, S xs ∧ J xs W') ∨ (∃ pre, Sp pre ∧ Jx pre W'))

section
variable {F : Fence} {n : Nat} {P : Program}

theorem wpIn_rangeFunc_st {α : Type} {g : Operand} {ps : Array Tmp} {assign body : Code} {Q : Exit → Act → World → Prop} {a : Act} {w : World}
    (hro : F.round = none) (h1 : 1 ≤ n) {gf : Nat} {lb : Array Value} (hg : a.eval g = .func (.func gf) #[] lb) (hFg : F.fn gf) (eg : ∀ args w, (callFunc gf args).run P w = .ok (.enter gf args) w)
    {encs : α → Array Value} {G : World → Prop} {St Kp : World → World → Prop} {S Sp : List α → Prop} (hseq : SeqSt F (n - 1) P gf lb encs G St Kp S Sp)
    (hG : G w) (hGa : ∀ W o, G W → G (W.alloc o)) (hSt : ∀ A B, St A B → KeepsOthers A B)
    (hKt : ∀ {A B C : World}, Kp A B → Kp B C → Kp A C) (hKb : ∀ (W : World) (l : Nat) (o : Obj), w.heap.size ≤ l → Kp W (W.putObj l o)) (hps : ∀ x, (encs x).size = ps.size)
    (I : List α → World → Prop) (Ix : Code → List α → World → Prop) (hI : OwnFrom w.heap.size I) (hIx : ∀ c, OwnFrom w.heap.size (Ix c)) (hIs : ∀ s A B, I s A → St A B → I s B) (h0 : I [] w) (a₁ : α → Act)
    (hassign : ∀ (l : Nat) (x : α) (W : World) (K : Act → World → Prop), K (a₁ x) W →
      assign.wpIn (F.inRound l) (n - 1 - 1) P (Exit.then K (fun _ _ _ => False)) { tmps := (ps.zip (encs x)).foldl (fun t (p, v) => t.setIfInBounds p v) a.tmps, defers := [] } W)
    (hbody : ∀ (l : Nat) (pre : List α) (x : α) (W : World), I pre W → Sp (pre ++ [x]) → body.wpIn (F.inRound l) (n - 1 - 1) P (ownPostG w.heap.size Kp I Ix (pre ++ [x]) W) (a₁ x) W)
    (hdone : ∀ (D : Nat) (xs : List α) (W : World), w.heap.size ≤ D → S xs → I xs W → W.heap[D]? = some (.deferred (some [])) → Q .normal { a with defers := { target := .collected D, args := #[] } :: a.defers } W)
    (hstop : ∀ (D : Nat) (c : Code) (pre : List α) (W : World), w.heap.size ≤ D → Sp pre → Ix c pre W → W.heap[D]? = some (.deferred (some [])) → c.wpIn F n P Q { a with defers := { target := .collected D, args := #[] } :: a.defers } W) :
    (Code.rangeFunc g ps assign body).wpIn F n P Q a w := by
  refine wpIn_rangeFunc fun fn hfn => ?_
  rw [hro]
  -- the loop's record, by its state and what is pending
  let rc : LoopState → Option Code → Loop := fun st pe => { state := st, pending := pe, fn, tmps := a.tmps, params := ps, assign, body, defers := w.heap.size }
  let B := w.heap.size
  let dq : Obj := .deferred (some [])
  have e0 := run_enterLoop_outer (P := P) (w := w) fn a.tmps ps assign body
  have z1 : (w.alloc dq).heap.size = B + 1 := World.size_alloc w dq
  have lay : ((w.alloc dq).alloc (.loop (rc .ready none))).heap[B + 1]? = some (.loop (rc .ready none)) := by
    have h := World.alloc_heap_new (w.alloc dq) (.loop (rc .ready none))
    rwa [z1] at h
  have layD : ((w.alloc dq).alloc (.loop (rc .ready none))).heap[B]? = some dq :=
    (Below.heap_alloc _ _ _ (by rw [z1]; exact Nat.lt_succ_self _)).trans (World.alloc_heap_new w dq)
  refine ⟨B + 1, [{ target := .collected B, args := #[] }], (w.alloc dq).alloc (.loop (rc .ready none)), { target := .fn (.func gf) lb, args := #[.func (.yield (B + 1)) #[] #[]] }, (w.alloc dq).alloc (.loop (rc .ready none)), gf,
    #[.func (.yield (B + 1)) #[] #[]] ++ lb, (w.alloc dq).alloc (.loop (rc .ready none)), e0, ?_, ?_, ?_, fun _ => h1, ?_⟩
  · simp only [resolve, hg]
    simp [go_sem]
  · intro f' hf'
    simp [Target.leads] at hf'
    subst hf'
    exact hFg
  · simp [invoke, go_sem, eg]
  -- the record and the deferred block abide the iterator's steps
  have keep : ∀ {A C : World} {k : Nat} {o : Obj}, A.heap[k]? = some o → o.isCells = false → St A C → C.heap[k]? = some o := fun hk ho hs => (hSt _ _ hs).same _ _ hk ho
  refine (hseq (B + 1) (fun pre W => I pre W ∧ W.heap[B + 1]? = some (.loop (rc .ready none)) ∧ W.heap[B]? = some dq)
    (fun pre W => ∃ c, Ix c pre W ∧ W.heap[B + 1]? = some (.loop (rc .done (some c))) ∧ W.heap[B]? = some dq)
    _ (hGa _ _ (hGa _ _ hG)) (fun s A C ⟨hi, hl, hd⟩ hs => ⟨hIs s A C hi hs, keep hl rfl hs, keep hd rfl hs⟩) ?_ ⟨hI.alloc _ (hI.alloc _ h0), lay, layD⟩).mono ?_
  · rintro pre x W ⟨hi, hl, hd⟩ hlen
    have hlt : B + 1 < W.heap.size := (Array.getElem?_eq_some_iff.1 hl).1
    refine ⟨fn, _, assign, body, run_yield (P := P) (args := encs x) hl (hps x), roundIn_of_wpIn hfn (hassign _ x W _ ⟨_, run_beginRound hl rfl, ?_⟩)⟩
    let busy : Obj := .loop (rc .busy none)
    have hl2 : (W.putObj (B + 1) busy).heap[B + 1]? = some busy := World.putObj_heap_same hlt
    have hd2 : (W.putObj (B + 1) busy).heap[B]? = some dq := (World.putObj_heap_other (by omega)).trans hd
    refine wpIn_mono (hbody _ pre x _ (hI.putObj _ hi (Nat.le_succ _) hl rfl) hlen) ?_
    have fin : ∀ (jump : Option Code) (W3 : World), KeepsFrom B (W.putObj (B + 1) busy) W3 →
        (Instr.endRound (B + 1) jump).run P W3 = .ok (.bool jump.isNone) (W3.putObj (B + 1) (.loop (rc (if jump.isNone then .ready else .done) jump))) ∧ W3.heap[B + 1]? = some busy ∧
        (W3.putObj (B + 1) (.loop (rc (if jump.isNone then .ready else .done) jump))).heap[B + 1]? = some (.loop (rc (if jump.isNone then .ready else .done) jump)) ∧
        (W3.putObj (B + 1) (.loop (rc (if jump.isNone then .ready else .done) jump))).heap[B]? = some dq := fun jump W3 hk => by
      have hl3 := hk.same _ _ (Nat.le_succ _) hl2 rfl
      exact ⟨run_endRound (P := P) jump hl3, hl3, World.putObj_heap_same (Array.getElem?_eq_some_iff.1 hl3).1, (World.putObj_heap_other (by omega)).trans (hk.same _ _ (Nat.le_refl _) hd2 rfl)⟩
    rintro e a3 W3 hp
    match e, hp with
    | .normal, ⟨hk, hkp, hi3⟩ =>
      obtain ⟨hr, hl3, hl4, hd4⟩ := fin none W3 hk
      exact ⟨_, _, hr, .inl ⟨rfl, ⟨hI.putObj _ hi3 (Nat.le_succ _) hl3 rfl, hl4, hd4⟩, hKt (hKt (hKb _ _ _ (Nat.le_succ _)) hkp) (hKb _ _ _ (Nat.le_succ _))⟩⟩
    | .ret, ⟨hk, hi3⟩ =>
      obtain ⟨hr, hl3, hl4, hd4⟩ := fin (some .ret) W3 hk
      exact ⟨_, _, hr, .inr ⟨rfl, .ret, (hIx _).putObj _ hi3 (Nat.le_succ _) hl3 rfl, hl4, hd4⟩⟩
    | .exit id, ⟨hk, hi3⟩ =>
      obtain ⟨hr, hl3, hl4, hd4⟩ := fin (some (.exit id)) W3 hk
      exact ⟨_, _, hr, .inr ⟨rfl, .exit id, (hIx _).putObj _ hi3 (Nat.le_succ _) hl3 rfl, hl4, hd4⟩⟩
    | .goto t, ⟨hk, hi3⟩ =>
      obtain ⟨hr, hl3, hl4, hd4⟩ := fin (some (.goto t)) W3 hk
      exact ⟨_, _, hr, .inr ⟨rfl, .goto t, (hIx _).putObj _ hi3 (Nat.le_succ _) hl3 rfl, hl4, hd4⟩⟩
    | .panic _, hp => exact hp.elim
    | .outgrown, hp => exact hp.elim
  · rintro e W2 ⟨⟨v, rfl⟩, ⟨xs, hS, hi, hl, hd⟩ | ⟨pre, hSp, c, hi, hl, hd⟩⟩
    · exact ⟨none, _, run_endLoop (P := P) hl (by intro h; cases h), hdone _ xs _ (Nat.le_refl _) hS (hI.putObj _ hi (Nat.le_succ _) hl rfl) ((World.putObj_heap_other (by omega)).trans hd)⟩
    · exact ⟨some c, _, run_endLoop (P := P) hl (by intro h; cases h), hstop _ c pre _ (Nat.le_refl _) hSp ((hIx c).putObj _ hi (Nat.le_succ _) hl rfl) ((World.putObj_heap_other (by omega)).trans hd)⟩
end
section
variable {F : Fence} {n : Nat} {P : Program} {b : Frame} {a : Act} {k : List Item} {cs : List Frame} {w : World} {Q : Exit → Act → World → Prop}
theorem stepR_scope' {c : Code} : step P (lone (b.atR a (.code (.scope c) :: k)) cs w) = .next (lone (b.atR a (.code c :: .inScope c :: k)) cs w) :=
  step_lone_go (by simp [stepG, stepG.exec, Frame.atR])
theorem stepR_inScope' {c : Code} : step P (lone (b.atR a (.inScope c :: k)) cs w) = .next (lone (b.atR a k) cs w) :=
  step_lone_go (by simp [stepG, stepG.exec, Frame.atR])
/-- a scope through which the run goes without a goto, inside a fence -/
theorem wpIn_scope_straight {c : Code} (h : c.wpIn F n P (Exit.noGoto Q) a w) : (Code.scope c).wpIn F n P Q a w := by
  intro b k cs hro hb hr
  have h0 : (lone (b.atR a (.code (.scope c) :: k)) cs w).fenced P F := fenced_calm hb hr rfl
  obtain ⟨e, a₁, w₁, hq, harr⟩ := h b (.inScope c :: k) cs hro hb hr
  cases e with
  | normal => exact ⟨.normal, a₁, w₁, hq, .head h0 stepR_scope' (StepsIn.trans harr (.one (fenced_calm hb hr rfl) stepR_inScope'))⟩
  | exit id =>
    have hx : exitTo id (.inScope c :: k) = exitTo id k := by simp [exitTo]
    exact ⟨.exit id, a₁, w₁, hq, fun k' hk => .head h0 stepR_scope' (harr.1 k' (by rw [hx]; exact hk)),
      fun hr' hk => let ⟨k₁, h1, h2⟩ := harr.2 hr' (by rw [hx]; exact hk); ⟨k₁, h1, .head h0 stepR_scope' h2⟩⟩
  | goto l => exact hq.elim
  | ret => exact ⟨_, a₁, w₁, hq, .of_steps (.one h0 stepR_scope') harr⟩
  | panic ch => exact ⟨_, a₁, w₁, hq, .of_steps (.one h0 stepR_scope') harr⟩
  | outgrown => exact ⟨_, a₁, w₁, hq, .of_steps (.one h0 stepR_scope') harr⟩
end

/-- an append whose run is known, as a step of a region that draws its order, inside a fence -/
theorem stepIn_append_run {F : Fence} {n : Nat} {P : Program} {w w' : World} {ops : Array Oper} {o : Oper} {a : Act} {K : Act → World → Prop} {Q : Exit → Act → World → Prop} {E : Prop} {t : TypeId} {v y v' : Value}
    (hrun : (Builtin.append_ #[t, t] t #[v, y]).run P w = .ok v' w') (hgd : o.guard = none) (s x : Operand)
    (ho : o.op = .call { callee := .builtin .append, args := #[s, x], argTypes := #[t, t] }) (hty : o.type = t) (hs : a.eval s = v) (hx : a.eval x = y)
    (h : K (a.put o.dst v') w') : if Region.wanted o (yielded ops a.tmps) = true then Oper.wpIn F n P o a w K Q else E := by
  have hw : Region.wanted o (yielded ops a.tmps) = true := by simp [Region.wanted, hgd]
  rw [if_pos hw]
  unfold Oper.wpIn
  refine ⟨?_, ?_⟩
  · simp [Oper.about, ho, resolve, Target.leads, Sem.run_pure]
  · rw [Oper.semAt_plain F _ _ (by rw [ho]; intro c hc'; cases hc')]
    simp only [execOp, ho, resolve, invoke, builtin, Sem.run_bind, Sem.run_pure, Result.andThen_ok, List.map_toArray, List.map_cons, List.map_nil, hs, hx, hty, hrun]
    exact h
theorem keepsFrom_below {B : Nat} {W W' : World} (h : Below W.heap.size W W') : KeepsFrom B W W' :=
  ⟨h.size, fun k _ _ hk _ => (h.block k (Array.getElem?_eq_some_iff.1 hk).1).trans hk⟩
theorem keepsFrom_set (B : Nat) (W : World) (p : Addr) (v : Value) : KeepsFrom B W (W.setCell p v) := (KeepsOthers.setCell W p v).from B
theorem keepsFrom_grown {B base e size n : Nat} {W W' : World} {v : Value} {xs : List Value} (ho : W.ownsRow base e size v n xs) (h : W.grownBy W' v.ownBlock) : KeepsFrom B W W' := by
  refine (KeepsOthers.of_grownBy h fun j _ ej hj => ?_).from B
  rcases ho.2 with ⟨rfl, _⟩ | ⟨g, cap, cur, rfl, _, hgb, _⟩
  · simp [Value.ownBlock] at ej
  · obtain rfl : g = j := by simpa [Value.ownBlock] using ej
    rw [hgb] at hj; cases hj; rfl
theorem own_ge {base e size n : Nat} {W : World} {v : Value} {xs : List Value} (ho : W.ownsRow base e size v n xs) : ∀ g, v.ownBlock = some g → base ≤ g := by
  rcases ho.2 with ⟨rfl, _⟩ | ⟨g, cap, cur, rfl, hb, hgb, _⟩
  · intro g e; simp [Value.ownBlock] at e
  · intro j e
    obtain rfl : g = j := by simpa [Value.ownBlock] using e
    exact hb
theorem own_cells {base e size n : Nat} {W : World} {v : Value} {xs : List Value} (ho : W.ownsRow base e size v n xs) : ∀ g, v.ownBlock = some g → ∃ o : Obj, W.heap[g]? = some o ∧ o.isCells = true := by
  rcases ho.2 with ⟨rfl, _⟩ | ⟨g, cap, cur, rfl, hb, hgb, _⟩
  · intro g e; simp [Value.ownBlock] at e
  · intro j e
    obtain rfl : g = j := by simpa [Value.ownBlock] using e
    exact ⟨_, hgb, rfl⟩
theorem own_slice {base e size n : Nat} {W : World} {v : Value} {xs : List Value} (ho : W.ownsRow base e size v n xs) : ∃ A cap, v = .slice A n cap := by
  rcases ho.2 with ⟨rfl, h0⟩ | ⟨g, cap, cur, rfl, _⟩
  · exact ⟨none, 0, by simp_all⟩
  · exact ⟨_, cap, rfl⟩
end Go.Proofs.YthhlnpfcpgfcfaaGreatDoor
