/-
  Events one after the other: what Run answers, in plain words; persist.Run.
-/
import Derived.Test.YtepemdmjbfoiaaaDoorPe4
namespace Go.Proofs.YtepemdmjbfoiaaaDoor
open Go.RowKit Go.Shelf
attribute [local go_sem] Oper.semAt_some

abbrev Lk := Int × Bool × Int × Int
def stE (l : Lk) (e : Ev) : Nat := stepE l.1 l.2.1 l.2.2.1 l.2.2.2 e.1 e.2.1 e.2.2
def stL (l : Lk) (e : Ev) : Lk := stepL l.1 l.2.1 l.2.2.1 l.2.2.2 e.1 e.2.1 e.2.2
def ckL (l : Lk) : Nat := chkL l.1 l.2.1 l.2.2.1 l.2.2.2
/-- the connection after the events, how many were done, and the error -/
def runT : Lk → List Ev → Lk × Nat × Nat
  | l, [] => (l, 0, 0)
  | l, e :: es => if stE l e ≠ 0 then (l, 0, stE l e) else ((runT (stL l e) es).1, (runT (stL l e) es).2.1 + 1, (runT (stL l e) es).2.2)
def runV (l : Lk) (es : List Ev) : Lk × Nat × Nat := if ckL l ≠ 0 then ((0, false, 0, 0), 0, ckL l) else runT l es
/-- the connection after k events -/
def aft (l : Lk) (es : List Ev) : Lk := es.foldl stL l
/-- no event of a list is refused -/
def okT : Lk → List Ev → Prop
  | _, [] => True
  | l, e :: es => stE l e = 0 ∧ okT (stL l e) es
theorem okT_snoc (l : Lk) (es : List Ev) (e : Ev) : okT l (es ++ [e]) ↔ okT l es ∧ stE (aft l es) e = 0 := by
  induction es generalizing l with
  | nil => simp [okT, aft]
  | cons f es ih => rw [List.cons_append, okT, okT, ih, and_assoc]; rfl
theorem aft_snoc (l : Lk) (es : List Ev) (e : Ev) : aft l (es ++ [e]) = stL (aft l es) e := by simp [aft]
theorem runT_all (l : Lk) (es : List Ev) (h : okT l es) : runT l es = (aft l es, es.length, 0) := by
  induction es generalizing l with
  | nil => rfl
  | cons f es ih => rw [runT, if_neg (by simp [h.1]), ih _ h.2]; rfl
theorem runT_stop (l : Lk) (es fs : List Ev) (e : Ev) (h : okT l es) (hn : stE (aft l es) e ≠ 0) : runT l (es ++ e :: fs) = (aft l es, es.length, stE (aft l es) e) := by
  induction es generalizing l with
  | nil =>
    have hn' : stE l e ≠ 0 := hn
    rw [List.nil_append, runT, if_pos hn']; rfl
  | cons f es ih => rw [List.cons_append, runT, if_neg (by simp [h.1]), ih _ h.2 hn]; rfl
/-- the number that Run keeps of how many were done -/
def doneI (pre : List (Nat × Ev)) : Int := pre.foldl (fun _ x => wrap64 ((x.1 : Int) + 1)) 0
theorem foldl_last {α β : Type} (f : α → β) (b : β) (pre : List α) (x : α) : (pre ++ [x]).foldl (fun _ y => f y) b = f x := by simp
theorem doneI_snoc (pre : List (Nat × Ev)) (x : Nat × Ev) : doneI (pre ++ [x]) = wrap64 ((x.1 : Int) + 1) := foldl_last (fun y : Nat × Ev => wrap64 ((y.1 : Int) + 1)) 0 pre x
theorem ws1 (k : Int) (h0 : 0 ≤ k) (h : k ≤ 1000000) : wrap64 (k + 1) = k + 1 := IntWalk.wrap64_in _ ⟨by omega, by omega⟩
theorem wrap64_small (k : Nat) (h : k ≤ 1000000) : wrap64 ((k : Int) + 1) = (k : Int) + 1 := ws1 k (Int.natCast_nonneg k) (by omega)
theorem doneI_upto (f : Nat → Ev) (k : Nat) (h : k ≤ 1000000) : doneI (upto (fun j => (j, f j)) k) = (k : Int) := by
  cases k with
  | zero => rfl
  | succ k => rw [upto_succ, doneI_snoc, wrap64_small k (by omega)]; exact (Int.natCast_succ k).symm
theorem upto_take (es : List Ev) (k : Nat) (h : k ≤ es.length) : (upto (fun j => (j, evAt es j)) k).map Prod.snd = es.take k := by
  apply List.ext_getElem
  · simp [upto, h]
  · intro i h1 h2
    simp [upto] at h1
    simp [upto, evAt_lt (show i < es.length by omega)]

theorem blk_own {β : Type} (B : Nat) (t : TypeId) (cs : β → Array Value) : Own (fun s W => Blk W B t (cs s)) := by
  intro s X Y row h hg hr
  exact h.grown hg fun e => by
    obtain ⟨o, ho, hc⟩ := hr B e.symm
    rw [show X.heap[B]? = _ from h] at ho; cases ho; cases hc
def lkC (l : Lk) : Array Value := #[.int .i64 l.1, .bool l.2.1, .int .i64 l.2.2.1, .int .i64 l.2.2.2]
def evC (e : Ev) : Array Value := #[.int .i64 e.1, .int .i64 e.2.1, .bool e.2.2]

theorem results_cell_tmp2 {fn : Func} {p u v : Tmp} {ty : TypeId} (h : fn.results = #[.cell p ty, .tmp u, .tmp v]) (tmps : Array Value) (P : Program) (w : World) :
    (results fn tmps).run P w =
      ((asAddr (tmps.getD p undef)).run P w).andThen fun a w₁ => ((loadVar ty a).run P w₁).andThen fun x w₂ => .ok (.tuple #[x, tmps.getD u undef, tmps.getD v undef]) w₂ := by
  simp only [results, h]
  simp [Sem.run_bind, Result.andThen]
theorem results_cell_row_tmp2 {P : Program} {fn : Func} {p u v : Tmp} {ty : TypeId} (h : fn.results = #[.cell p ty, .tmp u, .tmp v]) (tmps : Array Value) (w : World) (g : Nat) (t : TypeId) (cs : Array Value) (fr : Nat × Nat) (d : TypeDesc)
    (hp : tmps.getD p undef = .pointer (some ⟨g, 0, none⟩)) (hg : w.heap[g]? = some (.cells cs t fr))
    (hu : P.underlying ty = some d) (hd : (match d with | .struct _ | .array _ _ => true | _ => false) = true) (hi : (P.info? ty).map (·.size) = some cs.size) :
    (results fn tmps).run P w = .ok (.tuple #[.agg cs, tmps.getD u undef, tmps.getD v undef]) w := by
  rw [results_cell_tmp2 h, hp]
  simp [asAddr, run_loadVar_row w g t ty cs fr d hg hu hd hi]

/-- between two rounds -/
def RI (w : World) (l : Lk) (H : Nat) (pre : List (Nat × Ev)) (W : World) : Prop :=
  ((okT l (pre.map Prod.snd) ∧ H + 3 ≤ W.heap.size) ∧ Blk W w.heap.size 76 (lkC (aft l (pre.map Prod.snd))) ∧ Blk W (w.heap.size + 1) 76 (lkC (0, false, 0, 0)) ∧ Blk W H 3 #[.int .i64 (doneI pre)] ∧ Blk W (H + 1) 26 #[.int .i64 0]) ∧ Below w.heap.size w W
/-- left by the break -/
def RX (w : World) (l : Lk) (H : Nat) (c : Code) (pre : List (Nat × Ev)) (W : World) : Prop :=
  (∃ ini x, pre = ini ++ [x] ∧ c = .exit 0 ∧ okT l (ini.map Prod.snd) ∧ stE (aft l (ini.map Prod.snd)) x.2 ≠ 0 ∧ Blk W w.heap.size 76 (lkC (aft l (ini.map Prod.snd))) ∧ Blk W (w.heap.size + 1) 76 (lkC (0, false, 0, 0)) ∧ Blk W H 3 #[.int .i64 (doneI ini)] ∧ Blk W (H + 1) 26 #[.int .i64 (stE (aft l (ini.map Prod.snd)) x.2)]) ∧ Below w.heap.size w W
theorem RI_own (w : World) (l : Lk) (H N : Nat) (hN : w.heap.size ≤ N) : OwnFrom N (RI w l H) := by
  refine OwnFrom.and (Own.from (fun s X Y row h hg hr => ⟨⟨h.1.1, Nat.le_trans h.1.2 hg.size⟩, blk_own _ _ (fun pre : List (Nat × Ev) => lkC (aft l (pre.map Prod.snd))) s X Y row h.2.1 hg hr, blk_own _ _ (fun _ : List (Nat × Ev) => lkC (0, false, 0, 0)) s X Y row h.2.2.1 hg hr, blk_own _ _ (fun pre => #[.int .i64 (doneI pre)]) s X Y row h.2.2.2.1 hg hr, blk_own _ _ (fun _ : List (Nat × Ev) => #[.int .i64 0]) s X Y row h.2.2.2.2 hg hr⟩) _) (ownFrom_below (Nat.le_refl _) hN)
theorem RX_own (w : World) (l : Lk) (H : Nat) (c : Code) (N : Nat) (hN : w.heap.size ≤ N) : OwnFrom N (RX w l H c) := by
  refine OwnFrom.and (Own.from (fun s X Y row h hg hr => ?_) _) (ownFrom_below (Nat.le_refl _) hN)
  obtain ⟨ini, x, e1, e2, e3, e4, h1, h2, h3, h4⟩ := h
  exact ⟨ini, x, e1, e2, e3, e4, blk_own _ _ (fun _ : Unit => _) () X Y row h1 hg hr, blk_own _ _ (fun _ : Unit => _) () X Y row h2 hg hr, blk_own _ _ (fun _ : Unit => _) () X Y row h3 hg hr, blk_own _ _ (fun _ : Unit => _) () X Y row h4 hg hr⟩

set_option maxRecDepth 100000 in
set_option maxHeartbeats 8000000 in
theorem pRun (l : Lk) (A : Option Addr) (n c : Nat) (es : List Ev) (w : World) (hr : Reads w w.heap.size 3 A n (evsC es)) (hn : n ≤ 1000000) :
    Calls Tryd.prog 76 #[lkV l, .slice A n c] w fun e w' => e = .returned (.tuple #[lkV (runV l es).1, .int .i64 (runV l es).2.1, .int .i64 (runV l es).2.2]) ∧ Below w.heap.size w w' := by
  obtain rfl := hr.elen
  obtain ⟨s, a, m, d⟩ := l
  obtain ⟨R, hR⟩ : ∃ R, runV (s, a, m, d) es = R := ⟨_, rfl⟩
  rw [hR]
  unfold runV ckL at hR
  have cC := fun w => pCheck s a m d w
  obtain ⟨C, hC⟩ : ∃ C, chkL s a m d = C := ⟨_, rfl⟩
  simp only at hR
  rw [hC] at cC hR
  have CC := Lib.hid cC
  have HR := Lib.hid hr
  unfold lkV linkV at *
  clear cC hC hr
  simp only
  by_cases h0 : C ≠ 0
  · rw [if_pos h0] at hR
    subst hR
    have e2 : ((C : Int) != 0) = true := by rw [bne_iff_ne]; omega
    go_enter Tryd.func76, Tryd.ntmps76
    go_wp2_with fail
    go_step3
    go_wp2_with fail
    (with_reducible refine (CC.out _).mono ?_); rintro e w5 ⟨rfl, g5⟩
    have hB5 : Blk w5 (w.heap.size + 1) 76 #[.int .i64 0, .bool false, .int .i64 0, .int .i64 0] := Blk.below (blk_at _ (by simp)) g5 (by simp)
    have h1 := (Below.refl w.heap.size w).alloc (Nat.le_refl _) (.cells #[.int .i64 s, .bool a, .int .i64 m, .int .i64 d] 76)
    have h2 := h1.alloc h1.size (.cells #[.int .i64 0, .bool false, .int .i64 0, .int .i64 0] 76)
    have hbX := h2.trans (g5.mono h2.size)
    have d0 : w5.cell? ⟨w.heap.size + 1, 0, none⟩ = some (.int .i64 0) := hB5.cell 0
    have d1 : w5.cell? ⟨w.heap.size + 1, 1, none⟩ = some (.bool false) := hB5.cell 1
    have d2 : w5.cell? ⟨w.heap.size + 1, 2, none⟩ = some (.int .i64 0) := hB5.cell 2
    have d3 : w5.cell? ⟨w.heap.size + 1, 3, none⟩ = some (.int .i64 0) := hB5.cell 3
    have f0 := hB5.frozen 0
    have f1 := hB5.frozen 1
    have f2 := hB5.frozen 2
    have f3 := hB5.frozen 3
    have HB := Lib.hid (And.intro hB5 hbX)
    clear hB5 hbX g5 h1 h2
    go_wp2_with fail
    rw [Exit.noGoto_ret]
    refine bodyPost_ret (results_cell_row_tmp2 (p := 4) (u := 5) (v := 6) (ty := 76) (by kernel_rfl) _ _ (w.heap.size + 1) 76 #[.int .i64 0, .bool false, .int .i64 0, .int .i64 0] (0, 0) _ rfl ((((HB.out.1.set_ 0 _).set_ 1 _).set_ 2 _).set_ 3 _) Tryd.underlying76 rfl (by kernel_rfl)) rfl ?_
    exact ⟨rfl, (((HB.out.2.setCell (by simp) _).setCell (by simp) _).setCell (by simp) _).setCell (by simp) _⟩
  · have hC0 : C = 0 := by omega
    subst hC0
    rw [if_neg (by simp)] at hR
    have HX := Lib.hid hR
    clear hR h0
    refine (callsIn_wide (n := 6)).1 ?_
    refine callsIn_of_wp_marks Tryd.func76 rfl trivial ?_ rfl
    simp only [Tryd.ntmps76, List.size_toArray, List.length_cons, List.length_nil, Nat.reduceAdd, Nat.reduceSub, Array.replicate_succ, Array.replicate_zero, List.push_toArray, List.append_toArray, List.nil_append, List.cons_append]
    gi_wp2
    refine wpIn_scope_straight ?_
    gi_wp2_with (refine ⟨trivial, ?_⟩; gi_at_call 86; refine (callsIn_wide.2 (CC.out _)).mono ?_; rintro e w1 ⟨rfl, hb1⟩)
    refine wpIn_label ?_
    gi_wp2_with (refine ⟨trivial, ?_⟩; gi_at_call 124; refine (all_in Fence.wide _ trivial rfl _ _ _ _).mono ?_; rintro e w3 ⟨rfl, rfl⟩)
    obtain ⟨H, hH⟩ : ∃ H, w1.heap.size = H := ⟨_, rfl⟩
    have hsz := hb1.size
    have hHw : w.heap.size + 1 < H := by rw [← hH]; simp at hsz; omega
    obtain ⟨W0, hW0⟩ : ∃ W0, ((w1.alloc (.cells #[.int .i64 0] 3)).alloc (.cells #[.int .i64 0] 26)).alloc (.cells #[.slice A es.length c] 72) = W0 := ⟨_, rfl⟩
    have hs0 : W0.heap.size = H + 3 := by rw [← hW0, ← hH]; simp
    have hX0 : Below w.heap.size w W0 := by
      rw [← hW0]
      have h1 := (((Below.refl w.heap.size w).alloc (Nat.le_refl _) (.cells #[.int .i64 s, .bool a, .int .i64 m, .int .i64 d] 76)).alloc (by simp) (.cells #[.int .i64 0, .bool false, .int .i64 0, .int .i64 0] 76)).trans (hb1.mono (by simp; omega))
      have h2 := h1.alloc h1.size (.cells #[.int .i64 0] 3)
      have h3 := h2.alloc h2.size (.cells #[.int .i64 0] 26)
      exact h3.alloc h3.size _
    have hI0 : RI w (s, a, m, d) H [] W0 := by
      refine ⟨⟨⟨trivial, by omega⟩, ?_, ?_, ?_, ?_⟩, hX0⟩
      · rw [← hW0]
        exact (((Blk.below (Blk.alloc (Blk.new w _ _) _) hb1 (by simp; omega)).alloc _).alloc _).alloc _
      · rw [← hW0]
        exact (((Blk.below (blk_at _ (by simp)) hb1 (by simp)).alloc _).alloc _).alloc _
      · rw [← hW0]
        exact ((blk_at _ hH).alloc _).alloc _
      · rw [← hW0]
        exact (blk_at _ (by simp [hH])).alloc _
    have hBx : W0.cell? ⟨H + 1 + 1, 0, none⟩ = some (.slice A es.length c) := by
      rw [← hW0]
      exact (blk_at (t := 72) (cs := #[.slice A es.length c]) _ (by simp [hH])).cell 0
    have hr0 : Reads W0 w.heap.size 3 A es.length (evsC es) := HR.out.below hX0
    rw [hW0, hH]
    clear hW0 hsz hb1 hH
    refine wpIn_rangeFunc_ownH (n := 6) rfl (by omega) (gf := 150) (lb := #[.pointer (some ⟨H + 1 + 1, 0, none⟩)]) rfl trivial (enters_of Tryd.func150 (by kernel_rfl) rfl)
      (all_stops Fence.wide _ trivial rfl (by omega) (H + 1 + 1) w.heap.size c A es hn W0 (by omega) (by omega) hBx hr0) belowK_t (belowK_b (by omega)) (Below.refl _ _) (fun _ => rfl)
      (RI w (s, a, m, d) H) (RX w (s, a, m, d) H) (RI_own w _ H _ (by omega)) (fun c => RX_own w _ H c _ (by omega)) hI0
      (fun x a' W => ∃ Bx, H + 3 ≤ Bx ∧ Blk W Bx 81 (evC x.2) ∧ a' = { tmps := #[.agg #[.int .i64 s, .bool a, .int .i64 m, .int .i64 d], .slice A es.length c, .pointer (some ⟨w.heap.size, 0, none⟩), undef, .pointer (some ⟨w.heap.size + 1, 0, none⟩), .int .i64 0, .int .i64 0, .int .i64 0, .pointer (some ⟨H, 0, none⟩), .pointer (some ⟨H + 1, 0, none⟩), .int .i64 (x.1 : Int), .pointer (some ⟨Bx, 0, none⟩), undef, undef, .agg #[.int .i64 s, .bool a, .int .i64 m, .int .i64 d], .int .i64 0, .int .i64 0, .bool false, undef, undef, .slice A es.length c, .func (.func 150) #[] #[.pointer (some ⟨H + 1 + 1, 0, none⟩)], .int .i64 (x.1 : Int), .agg #[.int .i64 x.2.1, .int .i64 x.2.2.1, .bool x.2.2.2], undef, undef, undef, undef, undef, undef, undef, undef, undef, undef, undef, undef, undef, undef, undef], defers := [] })
      (fun x a' _ X Y row hs hg hr => by obtain ⟨Bx, h1, h2, h3⟩ := hs; exact ⟨Bx, h1, blk_own Bx _ (fun _ : Unit => _) () X Y row h2 hg (fun r e => (hr r e).2), h3⟩)
      ?assign ?body ?done ?stop
    case assign =>
      rintro l pre x W K hI hK
      gi_wp2
      have hz := hI.1.1.2
      refine hK _ _ ((KeepsOthers.alloc _ _).from _) ((Below.refl _ W).alloc (by omega) _) ⟨⟨⟨hI.1.1.1, by simp; omega⟩, hI.1.2.1.alloc _, hI.1.2.2.1.alloc _, hI.1.2.2.2.1.alloc _, hI.1.2.2.2.2.alloc _⟩, hI.2.alloc hI.2.size _⟩ ⟨W.heap.size, hz, Blk.new W _ _, rfl⟩
    case body =>
      rintro l pre x a' W hl hrec hI ⟨Bx, hBx, bX, rfl⟩ hlt
      obtain ⟨⟨⟨hok, hz⟩, k1, k2, k3, k4⟩, hB⟩ := hI
      obtain ⟨i, k, cd, cl⟩ := x
      obtain ⟨L, hL⟩ : ∃ L, aft (s, a, m, d) (pre.map Prod.snd) = L := ⟨_, rfl⟩
      rw [hL] at k1
      obtain ⟨s1, a1, m1, d1⟩ := L
      have cS := fun w => pStep s1 a1 m1 d1 k cd cl w
      obtain ⟨E, hE⟩ : ∃ E, stepE s1 a1 m1 d1 k cd cl = E := ⟨_, rfl⟩
      obtain ⟨N, hN⟩ : ∃ N, stepL s1 a1 m1 d1 k cd cl = N := ⟨_, rfl⟩
      rw [hE, hN] at cS
      obtain ⟨s2, a2, m2, d2⟩ := N
      unfold lkV linkV evV at cS
      have CS := Lib.hid cS
      have c0 : W.cell? ⟨w.heap.size, 0, none⟩ = some (.int .i64 s1) := k1.cell 0
      have c1 : W.cell? ⟨w.heap.size, 1, none⟩ = some (.bool a1) := k1.cell 1
      have c2 : W.cell? ⟨w.heap.size, 2, none⟩ = some (.int .i64 m1) := k1.cell 2
      have c3 : W.cell? ⟨w.heap.size, 3, none⟩ = some (.int .i64 d1) := k1.cell 3
      have x0 : W.cell? ⟨Bx, 0, none⟩ = some (.int .i64 k) := bX.cell 0
      have x1 : W.cell? ⟨Bx, 1, none⟩ = some (.int .i64 cd) := bX.cell 1
      have x2 : W.cell? ⟨Bx, 2, none⟩ = some (.bool cl) := bX.cell 2
      have HI := Lib.hid (And.intro hok (And.intro hz (And.intro k1 (And.intro k2 (And.intro k3 (And.intro k4 (And.intro hB (And.intro hL (And.intro hE hN)))))))))
      clear cS hok hz k1 k2 k3 k4 hB bX hL hE hN
      gi_wp2_with fail
      refine ⟨trivial, (CallsIn.inRound l (callsIn_wide.2 (CS.out _))).mono ?_⟩
      rintro e W1 ⟨rfl, hb1⟩
      clear c0 c1 c2 c3 x0 x1 x2
      obtain ⟨hok, hz, k1, k2, k3, k4, hB, hL, hE, hN⟩ := HI.out
      have j1 := (k1.below hb1 k1.lt).alloc (.cells #[.int .i64 s2, .bool a2, .int .i64 m2, .int .i64 d2] 76)
      have j2 := (k2.below hb1 k2.lt).alloc (.cells #[.int .i64 s2, .bool a2, .int .i64 m2, .int .i64 d2] 76)
      have j3 := (k3.below hb1 k3.lt).alloc (.cells #[.int .i64 s2, .bool a2, .int .i64 m2, .int .i64 d2] 76)
      have j4 := (k4.below hb1 k4.lt).alloc (.cells #[.int .i64 s2, .bool a2, .int .i64 m2, .int .i64 d2] 76)
      have hBz := (hB.trans (hb1.mono hB.size)).alloc (Nat.le_trans hB.size hb1.size) (.cells #[.int .i64 s2, .bool a2, .int .i64 m2, .int .i64 d2] 76)
      have hbz := hb1.alloc hb1.size (.cells #[.int .i64 s2, .bool a2, .int .i64 m2, .int .i64 d2] 76)
      obtain ⟨W2, hW2⟩ : ∃ W2, W1.alloc (.cells #[.int .i64 s2, .bool a2, .int .i64 m2, .int .i64 d2] 76) = W2 := ⟨_, rfl⟩
      have jn : Blk W2 W1.heap.size 76 #[.int .i64 s2, .bool a2, .int .i64 m2, .int .i64 d2] := by rw [← hW2]; exact Blk.new _ _ _
      rw [hW2] at j1 j2 j3 j4 hBz hbz
      have c0 : W2.cell? ⟨w.heap.size, 0, none⟩ = some (.int .i64 s1) := j1.cell 0
      have c1 : W2.cell? ⟨w.heap.size, 1, none⟩ = some (.bool a1) := j1.cell 1
      have c2 : W2.cell? ⟨w.heap.size, 2, none⟩ = some (.int .i64 m1) := j1.cell 2
      have c3 : W2.cell? ⟨w.heap.size, 3, none⟩ = some (.int .i64 d1) := j1.cell 3
      have f0 := j1.frozen 0
      have f1 := j1.frozen 1
      have f2 := j1.frozen 2
      have f3 := j1.frozen 3
      have y0 : W2.cell? ⟨W1.heap.size, 0, none⟩ = some (.int .i64 s2) := jn.cell 0
      have y1 : W2.cell? ⟨W1.heap.size, 1, none⟩ = some (.bool a2) := jn.cell 1
      have y2 : W2.cell? ⟨W1.heap.size, 2, none⟩ = some (.int .i64 m2) := jn.cell 2
      have y3 : W2.cell? ⟨W1.heap.size, 3, none⟩ = some (.int .i64 d2) := jn.cell 3
      have d0 : W2.cell? ⟨H, 0, none⟩ = some (.int .i64 (doneI pre)) := j3.cell 0
      have g0 := j3.frozen 0
      have e0 : W2.cell? ⟨H + 1, 0, none⟩ = some (.int .i64 0) := j4.cell 0
      have g1 := j4.frozen 0
      have HJ := Lib.hid (And.intro j1 (And.intro j2 (And.intro j3 (And.intro j4 (And.intro hBz (And.intro hbz (And.intro hok (And.intro hz (And.intro hL (And.intro hE hN))))))))))
      clear j1 j2 j3 j4 hBz hbz jn k1 k2 k3 k4 hB hL hE hN hok hz
      gi_wp2
      · have hE0 : ((E : Int) != 0) = true := by assumption
        obtain ⟨j1, j2, j3, j4, hBz, hbz, hok, hz, hL, hE, hN⟩ := HJ.out
        refine ⟨(keepsFrom_below hbz).trans (keepsFrom_set _ _ _ _), ⟨pre, (i, k, cd, cl), rfl, rfl, hok, ?_, ?_, j2.far (by simp; omega) _, j3.far (by simp) _, ?_⟩, hBz.setCell (by simp; omega) _⟩
        · rw [hL]
          show stepE s1 a1 m1 d1 k cd cl ≠ 0
          rw [hE]
          intro h
          rw [h] at hE0; cases hE0
        · rw [hL]
          exact j1.far (by simp; omega) _
        · rw [hL]
          show Blk _ _ _ #[.int .i64 ((stepE s1 a1 m1 d1 k cd cl : Nat) : Int)]
          rw [hE]
          exact j4.set_ 0 _
      · have hE0 : ((E : Int) != 0) = false := by assumption
        have hE1 : E = 0 := by
          have := bne_eq_false_iff_eq.1 hE0
          omega
        obtain ⟨j1, j2, j3, j4, hBz, hbz, hok, hz, hL, hE, hN⟩ := HJ.out
        have em : (pre ++ [((i, k, cd, cl) : Nat × Ev)]).map Prod.snd = pre.map Prod.snd ++ [(k, cd, cl)] := by simp
        have hst : stE (aft (s, a, m, d) (pre.map Prod.snd)) (k, cd, cl) = 0 := by
          rw [hL]
          show stepE s1 a1 m1 d1 k cd cl = 0
          rw [hE, hE1]
        have hsl : stL (aft (s, a, m, d) (pre.map Prod.snd)) (k, cd, cl) = (s2, a2, m2, d2) := by
          rw [hL]
          exact hN
        have hB5 := ((((hBz.setCell (p := ⟨w.heap.size, 0, none⟩) (Nat.le_refl _) (.int .i64 s2)).setCell (p := ⟨w.heap.size, 1, none⟩) (Nat.le_refl _) (.bool a2)).setCell (p := ⟨w.heap.size, 2, none⟩) (Nat.le_refl _) (.int .i64 m2)).setCell (p := ⟨w.heap.size, 3, none⟩) (Nat.le_refl _) (.int .i64 d2)).setCell (p := ⟨H, 0, none⟩) (by simp only; omega) (.int .i64 (wrap64 ((i : Int) + 1)))
        have hK5 := (((((keepsFrom_below (B := W0.heap.size) hbz).trans (keepsFrom_set _ _ ⟨w.heap.size, 0, none⟩ (.int .i64 s2))).trans (keepsFrom_set _ _ ⟨w.heap.size, 1, none⟩ (.bool a2))).trans (keepsFrom_set _ _ ⟨w.heap.size, 2, none⟩ (.int .i64 m2))).trans (keepsFrom_set _ _ ⟨w.heap.size, 3, none⟩ (.int .i64 d2))).trans (keepsFrom_set _ _ ⟨H, 0, none⟩ (.int .i64 (wrap64 ((i : Int) + 1))))
        have hP5 := (((((hbz.mono (show w.heap.size ≤ W.heap.size by omega)).setCell (p := ⟨w.heap.size, 0, none⟩) (Nat.le_refl _) (.int .i64 s2)).setCell (p := ⟨w.heap.size, 1, none⟩) (Nat.le_refl _) (.bool a2)).setCell (p := ⟨w.heap.size, 2, none⟩) (Nat.le_refl _) (.int .i64 m2)).setCell (p := ⟨w.heap.size, 3, none⟩) (Nat.le_refl _) (.int .i64 d2)).setCell (p := ⟨H, 0, none⟩) (by simp only; omega) (.int .i64 (wrap64 ((i : Int) + 1)))
        refine ⟨hK5, hP5, ⟨⟨?_, ?_⟩, ?_, ?_, ?_, ?_⟩, hB5⟩
        · rw [em, okT_snoc]; exact ⟨hok, hst⟩
        · have := hP5.size; omega
        · rw [em, aft_snoc, hsl]
          exact ((((j1.set_ 0 _).set_ 1 _).set_ 2 _).set_ 3 _).far (by simp; omega) _
        · exact ((((j2.far (by simp) _).far (by simp) _).far (by simp) _).far (by simp) _).far (by simp; omega) _
        · rw [doneI_snoc]
          exact ((((j3.far (by simp; omega) _).far (by simp; omega) _).far (by simp; omega) _).far (by simp; omega) _).set_ 0 _
        · exact ((((j4.far (by simp; omega) _).far (by simp; omega) _).far (by simp; omega) _).far (by simp; omega) _).far (by simp) _
    case done =>
      rintro D xs W hD rfl ⟨⟨⟨hok, hz⟩, k1, k2, k3, k4⟩, hB⟩ hK
      rw [upto_take es es.length (Nat.le_refl _), List.take_length] at hok k1
      rw [doneI_upto _ _ hn] at k3
      have hX := HX.out
      rw [runT_all _ _ hok] at hX
      obtain ⟨L, hL⟩ : ∃ L, aft (s, a, m, d) es = L := ⟨_, rfl⟩
      rw [hL] at k1 hX
      obtain ⟨s1, a1, m1, d1⟩ := L
      subst hX
      have c0 : W.cell? ⟨w.heap.size, 0, none⟩ = some (.int .i64 s1) := k1.cell 0
      have c1 : W.cell? ⟨w.heap.size, 1, none⟩ = some (.bool a1) := k1.cell 1
      have c2 : W.cell? ⟨w.heap.size, 2, none⟩ = some (.int .i64 m1) := k1.cell 2
      have c3 : W.cell? ⟨w.heap.size, 3, none⟩ = some (.int .i64 d1) := k1.cell 3
      have q0 : W.cell? ⟨w.heap.size + 1, 0, none⟩ = some (.int .i64 0) := k2.cell 0
      have q1 : W.cell? ⟨w.heap.size + 1, 1, none⟩ = some (.bool false) := k2.cell 1
      have q2 : W.cell? ⟨w.heap.size + 1, 2, none⟩ = some (.int .i64 0) := k2.cell 2
      have q3 : W.cell? ⟨w.heap.size + 1, 3, none⟩ = some (.int .i64 0) := k2.cell 3
      have f0 := k2.frozen 0
      have f1 := k2.frozen 1
      have f2 := k2.frozen 2
      have f3 := k2.frozen 3
      have d0 : W.cell? ⟨H, 0, none⟩ = some (.int .i64 es.length) := k3.cell 0
      have e0 : W.cell? ⟨H + 1, 0, none⟩ = some (.int .i64 0) := k4.cell 0
      have HJ := Lib.hid (And.intro k2 (And.intro hB hK))
      clear k1 k2 k3 k4 hB hK hok hL
      gi_wp2
      gi_region
      all_goals gi_wp2
      rw [Exit.noGoto_ret]
      obtain ⟨k2, hB, hK⟩ := HJ.out
      have k5 := ((((k2.set_ 0 (.int .i64 s1)).set_ 1 (.bool a1)).set_ 2 (.int .i64 m1)).set_ 3 (.int .i64 d1)).drew
      have hB5 := ((((hB.setCell (p := ⟨w.heap.size + 1, 0, none⟩) (by simp) (.int .i64 s1)).setCell (p := ⟨w.heap.size + 1, 1, none⟩) (by simp) (.bool a1)).setCell (p := ⟨w.heap.size + 1, 2, none⟩) (by simp) (.int .i64 m1)).setCell (p := ⟨w.heap.size + 1, 3, none⟩) (by simp) (.int .i64 d1)).drew
      have hK5 := ((((KeepsOthers.setCell W ⟨w.heap.size + 1, 0, none⟩ (.int .i64 s1)).trans (KeepsOthers.setCell _ ⟨w.heap.size + 1, 1, none⟩ (.bool a1))).trans (KeepsOthers.setCell _ ⟨w.heap.size + 1, 2, none⟩ (.int .i64 m1))).trans (KeepsOthers.setCell _ ⟨w.heap.size + 1, 3, none⟩ (.int .i64 d1))).same D _ hK rfl
      have hK' : ((((W.setCell ⟨w.heap.size + 1, 0, none⟩ (.int .i64 s1)).setCell ⟨w.heap.size + 1, 1, none⟩ (.bool a1)).setCell ⟨w.heap.size + 1, 2, none⟩ (.int .i64 m1)).setCell ⟨w.heap.size + 1, 3, none⟩ (.int .i64 d1)).drew.heap[D]? = some (.deferred (some [])) := hK5
      refine ⟨by simp, .inl ⟨_, _, rfl, run_takeDeferred hK', ?_⟩⟩
      refine ⟨_, results_cell_row_tmp2 (p := 4) (u := 5) (v := 6) (ty := 76) (by kernel_rfl) _ _ (w.heap.size + 1) 76 #[.int .i64 s1, .bool a1, .int .i64 m1, .int .i64 d1] (0, 0) _ rfl (Blk.grown k5 (grownBy_putObj' _ D (.deferred none)) (by simp; omega)) Tryd.underlying76 rfl (by kernel_rfl), ?_⟩
      exact ⟨rfl, hB5.trans (belowK_b (w := w) (Nat.le_refl _) _ D _ _ (by omega) hK' rfl rfl)⟩
    case stop =>
      rintro D c pre W hD ⟨kk, hkk, rfl⟩ ⟨⟨ini, x, e1, rfl, hok, hne, k1, k2, k3, k4⟩, hB⟩ hK
      obtain ⟨k', rfl⟩ : ∃ k', kk = k' + 1 := by
        cases kk with
        | zero => simp [upto] at e1
        | succ k' => exact ⟨k', rfl⟩
      rw [upto_succ] at e1
      obtain ⟨rfl, e5⟩ := List.append_inj' e1 rfl
      obtain rfl : (k', evAt es k') = x := by simpa using e5
      simp only at hne k4
      rw [upto_take es k' (by omega)] at hok hne k1 k4
      rw [doneI_upto _ _ (by omega)] at k3
      have hX := HX.out
      have hspl : es = es.take k' ++ evAt es k' :: es.drop (k' + 1) := by
        rw [evAt_lt (by omega), ← List.drop_eq_getElem_cons (by omega), List.take_append_drop]
      have hrun : runT (s, a, m, d) es = (aft (s, a, m, d) (es.take k'), k', stE (aft (s, a, m, d) (es.take k')) (evAt es k')) := by
        have h := runT_stop (s, a, m, d) (es.take k') (es.drop (k' + 1)) (evAt es k') hok hne
        rw [← hspl, List.length_take, Nat.min_eq_left (by omega)] at h
        exact h
      rw [hrun] at hX
      obtain ⟨L, hL⟩ : ∃ L, aft (s, a, m, d) (es.take k') = L := ⟨_, rfl⟩
      obtain ⟨E, hE⟩ : ∃ E, stE (aft (s, a, m, d) (es.take k')) (evAt es k') = E := ⟨_, rfl⟩
      rw [hE] at k4 hX
      rw [hL] at k1 hX
      obtain ⟨s1, a1, m1, d1⟩ := L
      subst hX
      have c0 : W.cell? ⟨w.heap.size, 0, none⟩ = some (.int .i64 s1) := k1.cell 0
      have c1 : W.cell? ⟨w.heap.size, 1, none⟩ = some (.bool a1) := k1.cell 1
      have c2 : W.cell? ⟨w.heap.size, 2, none⟩ = some (.int .i64 m1) := k1.cell 2
      have c3 : W.cell? ⟨w.heap.size, 3, none⟩ = some (.int .i64 d1) := k1.cell 3
      have q0 : W.cell? ⟨w.heap.size + 1, 0, none⟩ = some (.int .i64 0) := k2.cell 0
      have q1 : W.cell? ⟨w.heap.size + 1, 1, none⟩ = some (.bool false) := k2.cell 1
      have q2 : W.cell? ⟨w.heap.size + 1, 2, none⟩ = some (.int .i64 0) := k2.cell 2
      have q3 : W.cell? ⟨w.heap.size + 1, 3, none⟩ = some (.int .i64 0) := k2.cell 3
      have f0 := k2.frozen 0
      have f1 := k2.frozen 1
      have f2 := k2.frozen 2
      have f3 := k2.frozen 3
      have d0 : W.cell? ⟨H, 0, none⟩ = some (.int .i64 k') := k3.cell 0
      have e0 : W.cell? ⟨H + 1, 0, none⟩ = some (.int .i64 E) := k4.cell 0
      have HJ := Lib.hid (And.intro k2 (And.intro hB hK))
      clear k1 k2 k3 k4 hB hK hok hL hE hne hspl hrun e1 e5
      gi_wp2
      gi_region
      all_goals gi_wp2
      rw [Exit.noGoto_ret]
      obtain ⟨k2, hB, hK⟩ := HJ.out
      have k5 := ((((k2.set_ 0 (.int .i64 s1)).set_ 1 (.bool a1)).set_ 2 (.int .i64 m1)).set_ 3 (.int .i64 d1)).drew
      have hB5 := ((((hB.setCell (p := ⟨w.heap.size + 1, 0, none⟩) (by simp) (.int .i64 s1)).setCell (p := ⟨w.heap.size + 1, 1, none⟩) (by simp) (.bool a1)).setCell (p := ⟨w.heap.size + 1, 2, none⟩) (by simp) (.int .i64 m1)).setCell (p := ⟨w.heap.size + 1, 3, none⟩) (by simp) (.int .i64 d1)).drew
      have hK5 := ((((KeepsOthers.setCell W ⟨w.heap.size + 1, 0, none⟩ (.int .i64 s1)).trans (KeepsOthers.setCell _ ⟨w.heap.size + 1, 1, none⟩ (.bool a1))).trans (KeepsOthers.setCell _ ⟨w.heap.size + 1, 2, none⟩ (.int .i64 m1))).trans (KeepsOthers.setCell _ ⟨w.heap.size + 1, 3, none⟩ (.int .i64 d1))).same D _ hK rfl
      have hK' : ((((W.setCell ⟨w.heap.size + 1, 0, none⟩ (.int .i64 s1)).setCell ⟨w.heap.size + 1, 1, none⟩ (.bool a1)).setCell ⟨w.heap.size + 1, 2, none⟩ (.int .i64 m1)).setCell ⟨w.heap.size + 1, 3, none⟩ (.int .i64 d1)).drew.heap[D]? = some (.deferred (some [])) := hK5
      refine ⟨by simp, .inl ⟨_, _, rfl, run_takeDeferred hK', ?_⟩⟩
      refine ⟨_, results_cell_row_tmp2 (p := 4) (u := 5) (v := 6) (ty := 76) (by kernel_rfl) _ _ (w.heap.size + 1) 76 #[.int .i64 s1, .bool a1, .int .i64 m1, .int .i64 d1] (0, 0) _ rfl (Blk.grown k5 (grownBy_putObj' _ D (.deferred none)) (by simp; omega)) Tryd.underlying76 rfl (by kernel_rfl), ?_⟩
      exact ⟨rfl, hB5.trans (belowK_b (w := w) (Nat.le_refl _) _ D _ _ (by omega) hK' rfl rfl)⟩
end Go.Proofs.YtepemdmjbfoiaaaDoor
