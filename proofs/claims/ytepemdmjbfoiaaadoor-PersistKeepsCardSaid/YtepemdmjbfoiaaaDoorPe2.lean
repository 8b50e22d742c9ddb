/-
  Connections and their states: a step, of the program and of the reference.
-/
import Derived.Test.YtepemdmjbfoiaaaDoorPe1

import Derived.Test.YtepemdmjbfoiaaaDoorBs4
import Derived.RegionTactic
import Derived.BigRegion
namespace Go.Proofs.YtepemdmjbfoiaaaDoor
open Go.RowKit

/-- whether a kind of event is refused -/
def refB (s k : Int) : Bool := if s = 1 then k == 3 else if s = 2 then k != 3 && k != 4 else true
/-- the connection after an event that is not refused -/
def aftL (s : Int) (a : Bool) (n c k cd : Int) (cl : Bool) : Int × Bool × Int × Int :=
  if k = 1 then (2, cl, n, c) else if k = 2 then (3, false, n + 1, cd) else if k = 3 then ((if a = true ∨ cl = true ∨ n + 1 = 1000000 then 3 else 1), false, n + 1, cd)
  else if s = 1 then (3, a, n, c) else (s, true, n, c)
def lkV (l : Int × Bool × Int × Int) : Value := linkV l.1 l.2.1 l.2.2.1 l.2.2.2

set_option maxRecDepth 100000 in
set_option maxHeartbeats 4000000 in
theorem refuses_any (s : Int) (a : Bool) (n c k : Int) (w : World) :
    Calls Tryd.prog 126 #[.agg #[.int .i64 s, .bool a, .int .i64 n, .int .i64 c], .int .i64 k] w fun e w' => e = .returned (.bool (refB s k)) ∧ Below w.heap.size w w' := by
  obtain ⟨V, hV⟩ : ∃ V, refB s k = V := ⟨_, rfl⟩
  rw [hV]
  go_enter Tryd.func126, Tryd.ntmps126
  go_wp2_with fail
  all_goals (
    go_ret
    refine ⟨?_, (Below.refl _ _).alloc (Nat.le_refl _) _⟩
    rw [← hV]
    clear hV
    unfold refB
    simp_all)

theorem below4 (w : World) (a b c d : Obj) : Below w.heap.size w ((((w.alloc a).alloc b).alloc c).alloc d) := by
  have h1 := (Below.refl w.heap.size w).alloc (Nat.le_refl _) a
  have h2 := h1.alloc h1.size b
  have h3 := h2.alloc h2.size c
  exact h3.alloc h3.size d
theorem below3 (w : World) (a b c : Obj) : Below w.heap.size w (((w.alloc a).alloc b).alloc c) := by
  have h1 := (Below.refl w.heap.size w).alloc (Nat.le_refl _) a
  have h2 := h1.alloc h1.size b
  exact h2.alloc h2.size c
theorem blk_at {t : TypeId} {cs : Array Value} (X : World) {g : Nat} (h : X.heap.size = g) : Blk (X.alloc (.cells cs t)) g t cs := h ▸ Blk.new X t cs

set_option maxRecDepth 100000 in
set_option maxHeartbeats 4000000 in
theorem served_any (s : Int) (a : Bool) (n c cd k : Int) (w : World) (hn : n ≤ 1000000) (hn0 : 0 ≤ n) :
    Calls Tryd.prog 151 #[.agg #[.int .i64 s, .bool a, .int .i64 n, .int .i64 c], .int .i64 cd, .int .i64 k] w fun e w' => e = .returned (.agg #[.int .i64 k, .bool false, .int .i64 (n + 1), .int .i64 cd]) ∧ Below w.heap.size w w' := by
  go_enter Tryd.func151, Tryd.ntmps151
  go_wp2_with fail
  refine bodyPost_ret (results_cell_row (p := 6) (ty := 76) (by kernel_rfl) _ _ (w.heap.size + 1) 76 #[.int .i64 k, .bool false, .int .i64 (n + 1), .int .i64 cd] (0, 0) _ rfl (blk_at _ (by simp)) Tryd.underlying76 rfl (by kernel_rfl)) rfl ?_
  exact ⟨rfl, ((Below.refl _ _).alloc (by simp) _).alloc (by simp) _⟩

set_option maxRecDepth 100000 in
set_option maxHeartbeats 4000000 in
theorem after_any (s : Int) (a : Bool) (n c k cd : Int) (cl : Bool) (w : World) (hn : n ≤ 1000000) (hn0 : 0 ≤ n) (hk : 1 ≤ k ∧ k ≤ 4) :
    Calls Tryd.prog 127 #[.agg #[.int .i64 s, .bool a, .int .i64 n, .int .i64 c], .agg #[.int .i64 k, .int .i64 cd, .bool cl]] w fun e w' => e = .returned (lkV (aftL s a n c k cd cl)) ∧ Below w.heap.size w w' := by
  by_cases h1 : k = 1
  · subst h1
    go_enter Tryd.func127, Tryd.ntmps127
    go_wp2_with fail
    go_region
    all_goals go_wp2_with fail
    refine bodyPost_ret (results_cell_row (p := 4) (ty := 76) (by kernel_rfl) _ _ (w.heap.size + 1 + 1) 76 #[.int .i64 2, .bool cl, .int .i64 n, .int .i64 c] (0, 0) _ rfl (Blk.drew (Blk.alloc (blk_at _ (by simp)) _)) Tryd.underlying76 rfl (by kernel_rfl)) rfl ?_
    exact ⟨rfl, (below4 _ _ _ _ _).drew⟩
  by_cases h4 : k = 4
  · subst h4
    by_cases hs : s = 1
    · subst hs
      go_enter Tryd.func127, Tryd.ntmps127
      go_wp2_with fail
      refine bodyPost_ret (results_cell_row (p := 4) (ty := 76) (by kernel_rfl) _ _ (w.heap.size + 1 + 1) 76 #[.int .i64 3, .bool a, .int .i64 n, .int .i64 c] (0, 0) _ rfl (Blk.alloc (blk_at _ (by simp)) _) Tryd.underlying76 rfl (by kernel_rfl)) rfl ?_
      exact ⟨rfl, below4 _ _ _ _ _⟩
    · have hs1 : (s == 1) = false := beq_eq_false_iff_ne.2 hs
      have hv : aftL s a n c 4 cd cl = (s, true, n, c) := by unfold aftL; simp [hs]
      rw [hv]
      go_enter Tryd.func127, Tryd.ntmps127
      go_wp2_with fail
      refine bodyPost_ret (results_cell_row (p := 4) (ty := 76) (by kernel_rfl) _ _ (w.heap.size + 1 + 1) 76 #[.int .i64 s, .bool true, .int .i64 n, .int .i64 c] (0, 0) _ rfl (Blk.alloc (blk_at _ (by simp)) _) Tryd.underlying76 rfl (by kernel_rfl)) rfl ?_
      exact ⟨rfl, below4 _ _ _ _ _⟩
  by_cases h2 : k = 2
  · subst h2
    go_enter Tryd.func127, Tryd.ntmps127
    go_wp2_with fail
    (with_reducible refine (served_any _ _ n c cd _ _ hn hn0).mono ?_); rintro e w5 ⟨rfl, g5⟩
    have hB5 : Blk w5 (w.heap.size + 1 + 1) 76 #[.int .i64 0, .bool false, .int .i64 0, .int .i64 0] := Blk.below (Blk.alloc (blk_at _ (by simp)) _) g5 (by simp)
    have hbX := (below4 w _ _ _ _).trans (g5.mono (below4 w _ _ _ _).size)
    have d0 := hB5.cell 0
    have d1 := hB5.cell 1
    have d2 := hB5.cell 2
    have d3 := hB5.cell 3
    have f0 := hB5.frozen 0
    have f1 := hB5.frozen 1
    have f2 := hB5.frozen 2
    have f3 := hB5.frozen 3
    have HB := Lib.hid (And.intro hB5 hbX)
    clear hB5 hbX g5
    go_wp2_with fail
    refine bodyPost_ret (results_cell_row (p := 4) (ty := 76) (by kernel_rfl) _ _ (w.heap.size + 1 + 1) 76 #[.int .i64 3, .bool false, .int .i64 (n + 1), .int .i64 cd] (0, 0) _ rfl ((((HB.out.1.set_ 0 _).set_ 1 _).set_ 2 _).set_ 3 _) Tryd.underlying76 rfl (by kernel_rfl)) rfl ?_
    exact ⟨rfl, (((HB.out.2.setCell (by simp; omega) _).setCell (by simp; omega) _).setCell (by simp; omega) _).setCell (by simp; omega) _⟩
  · have h3 : k = 3 := by omega
    subst h3
    obtain ⟨Z, hZ⟩ : ∃ Z, aftL s a n c 3 cd cl = Z := ⟨_, rfl⟩
    rw [hZ]
    go_enter Tryd.func127, Tryd.ntmps127
    go_wp2_with fail
    all_goals (
      (with_reducible refine (served_any _ _ n c cd _ _ hn hn0).mono ?_); rintro e w5 ⟨rfl, g5⟩
      have hB5 : Blk w5 (w.heap.size + 1 + 1) 76 #[.int .i64 0, .bool false, .int .i64 0, .int .i64 0] := Blk.below (Blk.alloc (blk_at _ (by simp)) _) g5 (by simp)
      have hbX := (below4 w _ _ _ _).trans (g5.mono (below4 w _ _ _ _).size)
      have d0 := hB5.cell 0
      have d1 := hB5.cell 1
      have d2 := hB5.cell 2
      have d3 := hB5.cell 3
      have f0 := hB5.frozen 0
      have f1 := hB5.frozen 1
      have f2 := hB5.frozen 2
      have f3 := hB5.frozen 3
      have HB := Lib.hid (And.intro hB5 hbX)
      clear hB5 hbX g5
      go_wp2_with fail)
    all_goals first
      | (refine bodyPost_ret (results_cell_row (p := 4) (ty := 76) (by kernel_rfl) _ _ (w.heap.size + 1 + 1) 76 #[.int .i64 3, .bool false, .int .i64 (n + 1), .int .i64 cd] (0, 0) _ rfl ((((HB.out.1.set_ 0 _).set_ 1 _).set_ 2 _).set_ 3 _) Tryd.underlying76 rfl (by kernel_rfl)) rfl ?_)
      | (refine bodyPost_ret (results_cell_row (p := 4) (ty := 76) (by kernel_rfl) _ _ (w.heap.size + 1 + 1) 76 #[.int .i64 1, .bool false, .int .i64 (n + 1), .int .i64 cd] (0, 0) _ rfl ((((HB.out.1.set_ 0 _).set_ 1 _).set_ 2 _).set_ 3 _) Tryd.underlying76 rfl (by kernel_rfl)) rfl ?_)
    all_goals (
      refine ⟨?_, (((HB.out.2.setCell (by simp; omega) _).setCell (by simp; omega) _).setCell (by simp; omega) _).setCell (by simp; omega) _⟩
      rw [← hZ]
      unfold aftL lkV linkV
      simp_all)

/-- the error of a step -/
def stepE (s : Int) (a : Bool) (n c k cd : Int) (cl : Bool) : Nat :=
  if chkL s a n c ≠ 0 then chkL s a n c else if fitL k cd cl ≠ 0 then fitL k cd cl else if refB s k = true ∨ n = 1000000 then 9 else 0
/-- the connection after a step -/
def stepL (s : Int) (a : Bool) (n c k cd : Int) (cl : Bool) : Int × Bool × Int × Int :=
  if stepE s a n c k cd cl ≠ 0 then (0, false, 0, 0) else aftL s a n c k cd cl
theorem chkL_n {s n c : Int} {a : Bool} (h : chkL s a n c = 0) : 0 ≤ n ∧ n ≤ 1000000 := by
  unfold chkL at h
  repeat' split at h
  all_goals omega
theorem fitL_k {k cd : Int} {cl : Bool} (h : fitL k cd cl = 0) : 1 ≤ k ∧ k ≤ 4 := by
  unfold fitL at h
  repeat' split at h
  all_goals omega

set_option maxRecDepth 100000 in
set_option maxHeartbeats 4000000 in
theorem pStep (s : Int) (a : Bool) (n c k cd : Int) (cl : Bool) (w : World) :
    Calls Tryd.prog 79 #[linkV s a n c, evV k cd cl] w fun e w' => e = .returned (.tuple #[lkV (stepL s a n c k cd cl), .int .i64 (stepE s a n c k cd cl)]) ∧ Below w.heap.size w w' := by
  have cC := fun w => pCheck s a n c w
  have cF := fun w => pFits k cd cl w
  obtain ⟨C, hC⟩ : ∃ C, chkL s a n c = C := ⟨_, rfl⟩
  obtain ⟨F, hF⟩ : ∃ F, fitL k cd cl = F := ⟨_, rfl⟩
  rw [hC] at cC
  rw [hF] at cF
  have CC := Lib.hid cC
  have CF := Lib.hid cF
  clear cC cF
  unfold linkV evV at *
  by_cases h0 : C ≠ 0
  · have hv : stepE s a n c k cd cl = C := by unfold stepE; rw [hC, if_pos h0]
    have hl : stepL s a n c k cd cl = (0, false, 0, 0) := by unfold stepL; rw [hv, if_pos h0]
    rw [hv, hl]
    have e2 : ((C : Int) != 0) = true := by rw [bne_iff_ne]; omega
    clear hv hl hC hF
    go_enter Tryd.func79, Tryd.ntmps79
    go_wp2_with fail
    (with_reducible refine (CC.out _).mono ?_); rintro e w5 ⟨rfl, g5⟩
    have hB5 : Blk w5 (w.heap.size + 1 + 1) 76 #[.int .i64 0, .bool false, .int .i64 0, .int .i64 0] := Blk.below (blk_at _ (by simp)) g5 (by simp)
    have hbX := (below3 w _ _ _).trans (g5.mono (below3 w _ _ _).size)
    have d0 := hB5.cell 0
    have d1 := hB5.cell 1
    have d2 := hB5.cell 2
    have d3 := hB5.cell 3
    have f0 := hB5.frozen 0
    have f1 := hB5.frozen 1
    have f2 := hB5.frozen 2
    have f3 := hB5.frozen 3
    have HB := Lib.hid (And.intro hB5 hbX)
    clear hB5 hbX g5
    go_wp2_with fail
    refine bodyPost_ret (results_cell_row_tmp (p := 4) (u := 5) (ty := 76) (by kernel_rfl) _ _ (w.heap.size + 1 + 1) 76 #[.int .i64 0, .bool false, .int .i64 0, .int .i64 0] (0, 0) _ rfl ((((HB.out.1.set_ 0 _).set_ 1 _).set_ 2 _).set_ 3 _) Tryd.underlying76 rfl (by kernel_rfl)) rfl ?_
    exact ⟨rfl, (((HB.out.2.setCell (by simp; omega) _).setCell (by simp; omega) _).setCell (by simp; omega) _).setCell (by simp; omega) _⟩
  · have hC0 : C = 0 := by omega
    subst hC0
    by_cases h1 : F ≠ 0
    · have hv : stepE s a n c k cd cl = F := by unfold stepE; rw [hC, hF, if_neg (by simp), if_pos h1]
      have hl : stepL s a n c k cd cl = (0, false, 0, 0) := by unfold stepL; rw [hv, if_pos h1]
      rw [hv, hl]
      have e2 : ((F : Int) != 0) = true := by rw [bne_iff_ne]; omega
      clear hv hl hC hF
      go_enter Tryd.func79, Tryd.ntmps79
      go_wp2_with fail
      (with_reducible refine (CC.out _).mono ?_); rintro e w5 ⟨rfl, g5⟩
      have hB5 : Blk w5 (w.heap.size + 1 + 1) 76 #[.int .i64 0, .bool false, .int .i64 0, .int .i64 0] := Blk.below (blk_at _ (by simp)) g5 (by simp)
      have hE5 : Blk w5 (w.heap.size + 1) 81 #[.int .i64 k, .int .i64 cd, .bool cl] := Blk.below (Blk.alloc (blk_at _ (by simp)) _) g5 (by simp)
      have hbX := (below3 w _ _ _).trans (g5.mono (below3 w _ _ _).size)
      have c0 := hE5.cell 0
      have c1 := hE5.cell 1
      have c2 := hE5.cell 2
      have HB := Lib.hid (And.intro hB5 hbX)
      clear hB5 hE5 hbX g5
      go_wp2_with fail
      (with_reducible refine (CF.out _).mono ?_); rintro e w6 ⟨rfl, g6⟩
      have hB6 := HB.out.1.below g6 HB.out.1.lt
      have hbX := HB.out.2.trans (g6.mono HB.out.2.size)
      have d0 := hB6.cell 0
      have d1 := hB6.cell 1
      have d2 := hB6.cell 2
      have d3 := hB6.cell 3
      have f0 := hB6.frozen 0
      have f1 := hB6.frozen 1
      have f2 := hB6.frozen 2
      have f3 := hB6.frozen 3
      have HB := Lib.hid (And.intro hB6 hbX)
      clear hB6 hbX g6 c0 c1 c2
      go_wp2_with fail
      refine bodyPost_ret (results_cell_row_tmp (p := 4) (u := 5) (ty := 76) (by kernel_rfl) _ _ (w.heap.size + 1 + 1) 76 #[.int .i64 0, .bool false, .int .i64 0, .int .i64 0] (0, 0) _ rfl ((((HB.out.1.set_ 0 _).set_ 1 _).set_ 2 _).set_ 3 _) Tryd.underlying76 rfl (by kernel_rfl)) rfl ?_
      exact ⟨rfl, (((HB.out.2.setCell (by simp; omega) _).setCell (by simp; omega) _).setCell (by simp; omega) _).setCell (by simp; omega) _⟩
    · have hF0 : F = 0 := by omega
      subst hF0
      have hn := chkL_n hC
      have hk := fitL_k hF
      have cR := fun w => refuses_any s a n c k w
      have cA := fun w => after_any s a n c k cd cl w hn.2 hn.1 hk
      obtain ⟨R, hR⟩ : ∃ R, refB s k = R := ⟨_, rfl⟩
      rw [hR] at cR
      have CR := Lib.hid cR
      have CA := Lib.hid cA
      clear cR cA
      have eN : stepE s a n c k cd cl = if R = true ∨ n = 1000000 then 9 else 0 := by unfold stepE; rw [hC, hF, hR, if_neg (by simp), if_neg (by simp)]
      have eL : stepL s a n c k cd cl = if R = true ∨ n = 1000000 then (0, false, 0, 0) else aftL s a n c k cd cl := by
        unfold stepL; rw [eN]
        by_cases hb : R = true ∨ n = 1000000
        · rw [if_pos hb, if_pos hb, if_pos (by simp)]
        · rw [if_neg hb, if_neg hb, if_neg (by simp)]
      obtain ⟨A, hA⟩ : ∃ A, aftL s a n c k cd cl = A := ⟨_, rfl⟩
      rw [hA] at eL CA
      obtain ⟨A0, A1, A2, A3⟩ := A
      simp only [lkV, linkV] at CA
      obtain ⟨E, hE⟩ : ∃ E, stepE s a n c k cd cl = E := ⟨_, rfl⟩
      obtain ⟨L, hL⟩ : ∃ L, stepL s a n c k cd cl = L := ⟨_, rfl⟩
      rw [hE] at eN
      rw [hL] at eL
      rw [hE, hL]
      have HE := Lib.hid (And.intro eN eL)
      clear hC hF eN hR eL hA hE hL
      go_enter Tryd.func79, Tryd.ntmps79
      go_wp2_with fail
      (with_reducible refine (CC.out _).mono ?_); rintro e w5 ⟨rfl, g5⟩
      have hL5 : Blk w5 w.heap.size 76 #[.int .i64 s, .bool a, .int .i64 n, .int .i64 c] := Blk.below (Blk.alloc (Blk.alloc (Blk.new w _ _) _) _) g5 (by simp; omega)
      have hB5 : Blk w5 (w.heap.size + 1 + 1) 76 #[.int .i64 0, .bool false, .int .i64 0, .int .i64 0] := Blk.below (blk_at _ (by simp)) g5 (by simp)
      have hE5 : Blk w5 (w.heap.size + 1) 81 #[.int .i64 k, .int .i64 cd, .bool cl] := Blk.below (Blk.alloc (blk_at _ (by simp)) _) g5 (by simp)
      have hbX := (below3 w _ _ _).trans (g5.mono (below3 w _ _ _).size)
      have c0 := hE5.cell 0
      have c1 := hE5.cell 1
      have c2 := hE5.cell 2
      have HB := Lib.hid (And.intro hB5 (And.intro hbX (And.intro hL5 hE5)))
      clear hB5 hE5 hbX g5 hL5
      go_wp2_with fail
      (with_reducible refine (CF.out _).mono ?_); rintro e w6 ⟨rfl, g6⟩
      clear c0 c1 c2
      have hB6 := HB.out.1.below g6 HB.out.1.lt
      have hL6 := HB.out.2.2.1.below g6 HB.out.2.2.1.lt
      have hE6 := HB.out.2.2.2.below g6 HB.out.2.2.2.lt
      have hbX := HB.out.2.1.trans (g6.mono HB.out.2.1.size)
      have b0 := hL6.cell 0
      have b1 := hL6.cell 1
      have b2 := hL6.cell 2
      have b3 := hL6.cell 3
      obtain ⟨w7, hw7⟩ : ∃ w7, w6.alloc (.cells #[.int .i64 s, .bool a, .int .i64 n, .int .i64 c] 136) = w7 := ⟨_, rfl⟩
      have hC7 : Blk w7 w6.heap.size 136 #[.int .i64 s, .bool a, .int .i64 n, .int .i64 c] := by rw [← hw7]; exact Blk.new _ _ _
      have hB7 := hB6.alloc (.cells #[.int .i64 s, .bool a, .int .i64 n, .int .i64 c] 136)
      have hL7 := hL6.alloc (.cells #[.int .i64 s, .bool a, .int .i64 n, .int .i64 c] 136)
      have hE7 := hE6.alloc (.cells #[.int .i64 s, .bool a, .int .i64 n, .int .i64 c] 136)
      have hb7 := hbX.alloc hbX.size (.cells #[.int .i64 s, .bool a, .int .i64 n, .int .i64 c] 136)
      rw [hw7] at hB7 hL7 hE7 hb7
      have p0 := hC7.cell 0
      have p1 := hC7.cell 1
      have p2 := hC7.cell 2
      have p3 := hC7.cell 3
      have c0 := hE7.cell 0
      have HB := Lib.hid (And.intro hB7 (And.intro hb7 (And.intro hL7 (And.intro hE7 hC7))))
      clear hB6 hE6 hbX g6 hL6 hB7 hL7 hE7 hb7 hC7
      go_wp2_with fail
      (with_reducible refine (CR.out _).mono ?_); rintro e w8 ⟨rfl, g8⟩
      clear c0 p0 p1 p2 p3 b0 b1 b2 b3
      have hB8 := HB.out.1.below g8 HB.out.1.lt
      have hL8 := HB.out.2.2.1.below g8 HB.out.2.2.1.lt
      have hE8 := HB.out.2.2.2.1.below g8 HB.out.2.2.2.1.lt
      have hC8 := HB.out.2.2.2.2.below g8 HB.out.2.2.2.2.lt
      have hbX := HB.out.2.1.trans (g8.mono HB.out.2.1.size)
      have c0 := hE8.cell 0
      have c1 := hE8.cell 1
      have c2 := hE8.cell 2
      have p0 := hC8.cell 0
      have p1 := hC8.cell 1
      have p2 := hC8.cell 2
      have p3 := hC8.cell 3
      have b2 := hL8.cell 2
      have d0 := hB8.cell 0
      have d1 := hB8.cell 1
      have d2 := hB8.cell 2
      have d3 := hB8.cell 3
      have f0 := hB8.frozen 0
      have f1 := hB8.frozen 1
      have f2 := hB8.frozen 2
      have f3 := hB8.frozen 3
      have HB := Lib.hid (And.intro hB8 hbX)
      clear hB8 hE8 hbX g8 hL8 hC8
      go_wp2_with fail
      · rename_i hr
        have hE := HE.out
        rw [if_pos (Or.inl hr), if_pos (Or.inl hr)] at hE
        obtain ⟨rfl, rfl⟩ := hE
        refine bodyPost_ret (results_cell_row_tmp (p := 4) (u := 5) (ty := 76) (by kernel_rfl) _ _ (w.heap.size + 1 + 1) 76 #[.int .i64 0, .bool false, .int .i64 0, .int .i64 0] (0, 0) _ rfl ((((HB.out.1.set_ 0 _).set_ 1 _).set_ 2 _).set_ 3 _) Tryd.underlying76 rfl (by kernel_rfl)) rfl ?_
        exact ⟨rfl, (((HB.out.2.setCell (by simp; omega) _).setCell (by simp; omega) _).setCell (by simp; omega) _).setCell (by simp; omega) _⟩
      · rename_i hr hq
        have hq : n = 1000000 := eq_of_beq hq
        have hE := HE.out
        rw [if_pos (Or.inr hq), if_pos (Or.inr hq)] at hE
        obtain ⟨rfl, rfl⟩ := hE
        refine bodyPost_ret (results_cell_row_tmp (p := 4) (u := 5) (ty := 76) (by kernel_rfl) _ _ (w.heap.size + 1 + 1) 76 #[.int .i64 0, .bool false, .int .i64 0, .int .i64 0] (0, 0) _ rfl ((((HB.out.1.set_ 0 _).set_ 1 _).set_ 2 _).set_ 3 _) Tryd.underlying76 rfl (by kernel_rfl)) rfl ?_
        exact ⟨rfl, (((HB.out.2.setCell (by simp; omega) _).setCell (by simp; omega) _).setCell (by simp; omega) _).setCell (by simp; omega) _⟩
      · have hr : ¬R = true := by assumption
        have hq : (n == 1000000) = false := by assumption
        have hb : ¬(R = true ∨ n = 1000000) := by
          rintro (h | h)
          · exact hr h
          · rw [h] at hq; cases hq
        have hE := HE.out
        rw [if_neg hb, if_neg hb] at hE
        obtain ⟨rfl, rfl⟩ := hE
        clear hq hb
        (with_reducible refine (CA.out _).mono ?_); rintro e w9 ⟨rfl, g9⟩
        clear c0 c1 c2 p0 p1 p2 p3 b2 d0 d1 d2 d3 f0 f1 f2 f3
        have hB9 := HB.out.1.below g9 HB.out.1.lt
        have hbX := HB.out.2.trans (g9.mono HB.out.2.size)
        have d0 := hB9.cell 0
        have d1 := hB9.cell 1
        have d2 := hB9.cell 2
        have d3 := hB9.cell 3
        have f0 := hB9.frozen 0
        have f1 := hB9.frozen 1
        have f2 := hB9.frozen 2
        have f3 := hB9.frozen 3
        have HB := Lib.hid (And.intro hB9 hbX)
        clear hB9 hbX g9
        go_wp2_with fail
        refine bodyPost_ret (results_cell_row_tmp (p := 4) (u := 5) (ty := 76) (by kernel_rfl) _ _ (w.heap.size + 1 + 1) 76 #[.int .i64 A0, .bool A1, .int .i64 A2, .int .i64 A3] (0, 0) _ rfl ((((HB.out.1.set_ 0 _).set_ 1 _).set_ 2 _).set_ 3 _) Tryd.underlying76 rfl (by kernel_rfl)) rfl ?_
        exact ⟨rfl, (((HB.out.2.setCell (by simp; omega) _).setCell (by simp; omega) _).setCell (by simp; omega) _).setCell (by simp; omega) _⟩
end Go.Proofs.YtepemdmjbfoiaaaDoor
