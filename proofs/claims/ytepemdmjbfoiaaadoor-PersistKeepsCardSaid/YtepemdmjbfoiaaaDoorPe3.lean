/-
  Connections and their states: a step of the reference.
-/
import Derived.Test.YtepemdmjbfoiaaaDoorPe2
namespace Go.Proofs.YtepemdmjbfoiaaaDoor
open Go.RowKit

theorem chkL_s {s n c : Int} {a : Bool} (h : chkL s a n c = 0) : (1 ≤ s ∧ s ≤ 3) ∧ (s ≠ 2 → a = false) := by
  unfold chkL at h
  split at h
  · omega
  · split at h
    · omega
    · split at h
      · omega
      · split at h
        · omega
        · rename_i h1 _ _ h2
          refine ⟨by omega, fun hs => ?_⟩
          cases a
          · rfl
          · exact absurd ⟨rfl, hs⟩ h2

set_option maxRecDepth 100000 in
set_option maxHeartbeats 40000000 in
theorem rStep (s : Int) (a : Bool) (n c k cd : Int) (cl : Bool) (w : World) :
    Calls Tryd.prog 92 #[linkV s a n c, evV k cd cl] w fun e w' => e = .returned (.tuple #[lkV (stepL s a n c k cd cl), .int .i64 (stepE s a n c k cd cl)]) ∧ Below w.heap.size w w' := by
  have cC := fun w => rCheck13 s a n c w
  have cF := fun w => rFits k cd cl w
  obtain ⟨C, hC⟩ : ∃ C, chkL s a n c = C := ⟨_, rfl⟩
  obtain ⟨F, hF⟩ : ∃ F, fitL k cd cl = F := ⟨_, rfl⟩
  rw [hC] at cC
  rw [hF] at cF
  have CC := Lib.hid cC
  have CF := Lib.hid cF
  clear cC cF
  unfold linkV evV at *
  by_cases h0 : C ≠ 0
  · have hv : stepE s a n c k cd cl = C := by unfold stepE; rw [hC, if_pos h0]
    have hl : stepL s a n c k cd cl = (0, false, 0, 0) := by unfold stepL; rw [hv, if_pos h0]
    rw [hv, hl]
    have e2 : ((C : Int) != 0) = true := by rw [bne_iff_ne]; omega
    have e3 : ((C : Int) == 0) = false := beq_eq_false_iff_ne.2 (by omega)
    clear hv hl hC hF
    go_enter Tryd.func92, Tryd.ntmps92
    go_wp2_with fail
    (with_reducible refine (CC.out _).mono ?_); rintro e w5 ⟨rfl, g5⟩
    have hB5 : Blk w5 (w.heap.size + 1 + 1) 76 #[.int .i64 0, .bool false, .int .i64 0, .int .i64 0] := Blk.below (blk_at _ (by simp)) g5 (by simp)
    have hbX := (below3 w _ _ _).trans (g5.mono (below3 w _ _ _).size)
    have d0 := hB5.cell 0
    have d1 := hB5.cell 1
    have d2 := hB5.cell 2
    have d3 := hB5.cell 3
    have f0 := hB5.frozen 0
    have f1 := hB5.frozen 1
    have f2 := hB5.frozen 2
    have f3 := hB5.frozen 3
    have HB := Lib.hid (And.intro hB5 hbX)
    clear hB5 hbX g5
    go_wp2_with fail
    refine bodyPost_ret (results_cell_row_tmp (p := 4) (u := 5) (ty := 76) (by kernel_rfl) _ _ (w.heap.size + 1 + 1) 76 #[.int .i64 0, .bool false, .int .i64 0, .int .i64 0] (0, 0) _ rfl ((((HB.out.1.set_ 0 _).set_ 1 _).set_ 2 _).set_ 3 _) Tryd.underlying76 rfl (by kernel_rfl)) rfl ?_
    exact ⟨rfl, (((HB.out.2.setCell (by simp; omega) _).setCell (by simp; omega) _).setCell (by simp; omega) _).setCell (by simp; omega) _⟩
  · have hC0 : C = 0 := by omega
    subst hC0
    have hn := chkL_n hC
    have hs := chkL_s hC
    obtain ⟨E, hE⟩ : ∃ E, stepE s a n c k cd cl = E := ⟨_, rfl⟩
    obtain ⟨L, hL⟩ : ∃ L, stepL s a n c k cd cl = L := ⟨_, rfl⟩
    have HE := Lib.hid (And.intro hE (And.intro hL (And.intro hF hC)))
    rw [hE, hL]
    clear hE hL hC hF
    go_enter Tryd.func92, Tryd.ntmps92
    go_wp2_with fail
    (with_reducible refine (CC.out _).mono ?_); rintro e w5 ⟨rfl, g5⟩
    have hL5 : Blk w5 w.heap.size 76 #[.int .i64 s, .bool a, .int .i64 n, .int .i64 c] := Blk.below (Blk.alloc (Blk.alloc (Blk.new w _ _) _) _) g5 (by simp; omega)
    have hB5 : Blk w5 (w.heap.size + 1 + 1) 76 #[.int .i64 0, .bool false, .int .i64 0, .int .i64 0] := Blk.below (blk_at _ (by simp)) g5 (by simp)
    have hE5 : Blk w5 (w.heap.size + 1) 81 #[.int .i64 k, .int .i64 cd, .bool cl] := Blk.below (Blk.alloc (blk_at _ (by simp)) _) g5 (by simp)
    have hbX := (below3 w _ _ _).trans (g5.mono (below3 w _ _ _).size)
    have c0 := hE5.cell 0
    have c1 := hE5.cell 1
    have c2 := hE5.cell 2
    have HB := Lib.hid (And.intro hB5 (And.intro hbX (And.intro hL5 hE5)))
    clear hB5 hE5 hbX g5 hL5
    go_wp2_with fail
    (with_reducible refine (CF.out _).mono ?_); rintro e w6 ⟨rfl, g6⟩
    clear c0 c1 c2
    have hB6 := HB.out.1.below g6 HB.out.1.lt
    have hL6 := HB.out.2.2.1.below g6 HB.out.2.2.1.lt
    have hE6 := HB.out.2.2.2.below g6 HB.out.2.2.2.lt
    have hbX := HB.out.2.1.trans (g6.mono HB.out.2.1.size)
    have b0 := hL6.cell 0
    have b1 := hL6.cell 1
    have b2 := hL6.cell 2
    have b3 := hL6.cell 3
    have f0 := hL6.frozen 0
    have f1 := hL6.frozen 1
    have f2 := hL6.frozen 2
    have f3 := hL6.frozen 3
    have c0 := hE6.cell 0
    have c1 := hE6.cell 1
    have c2 := hE6.cell 2
    have d0 := hB6.cell 0
    have d1 := hB6.cell 1
    have d2 := hB6.cell 2
    have d3 := hB6.cell 3
    have g0 := hB6.frozen 0
    have g1 := hB6.frozen 1
    have g2 := hB6.frozen 2
    have g3 := hB6.frozen 3
    have HB := Lib.hid (And.intro hB6 (And.intro hbX (And.intro hL6 hE6)))
    clear hB6 hE6 hbX g6 hL6
    by_cases h1 : F ≠ 0
    · have e2 : ((F : Int) != 0) = true := by rw [bne_iff_ne]; omega
      have hE := HE.out
      unfold stepL stepE at hE
      rw [hE.2.2.2, hE.2.2.1, if_neg (by simp), if_pos h1, if_pos h1] at hE
      obtain ⟨rfl, rfl, _⟩ := hE
      go_wp2_with fail
      refine bodyPost_ret (results_cell_row_tmp (p := 4) (u := 5) (ty := 76) (by kernel_rfl) _ _ (w.heap.size + 1 + 1) 76 #[.int .i64 0, .bool false, .int .i64 0, .int .i64 0] (0, 0) _ rfl ((((HB.out.1.set_ 0 _).set_ 1 _).set_ 2 _).set_ 3 _) Tryd.underlying76 rfl (by kernel_rfl)) rfl ?_
      exact ⟨rfl, (((HB.out.2.1.setCell (by simp; omega) _).setCell (by simp; omega) _).setCell (by simp; omega) _).setCell (by simp; omega) _⟩
    · have hF0 : F = 0 := by omega
      subst hF0
      have hk := fitL_k HE.out.2.2.1
      go_wp2_with fail
      go_quiet (fail)
      rename_i nq
      clear b0 b1 b2 b3 f0 f1 f2 f3 c0 c1 c2 d0 d1 d2 d3 g0 g1 g2 g3
      have hB7 := HB.out.1.drewN nq
      have hX7 : Below w.heap.size w (w6.drewN nq) := ⟨HB.out.2.1.os, HB.out.2.1.tape, HB.out.2.1.output, HB.out.2.1.size, HB.out.2.1.block⟩
      have hL7 := HB.out.2.2.1.drewN nq
      have hE7 := HB.out.2.2.2.drewN nq
      generalize w6.drewN nq = w7 at hB7 hX7 hL7 hE7 ⊢
      have b0 := hL7.cell 0
      have b1 := hL7.cell 1
      have b2 := hL7.cell 2
      have b3 := hL7.cell 3
      have f0 := hL7.frozen 0
      have f1 := hL7.frozen 1
      have f2 := hL7.frozen 2
      have f3 := hL7.frozen 3
      have c0 := hE7.cell 0
      have c1 := hE7.cell 1
      have c2 := hE7.cell 2
      have d0 := hB7.cell 0
      have d1 := hB7.cell 1
      have d2 := hB7.cell 2
      have d3 := hB7.cell 3
      have g0 := hB7.frozen 0
      have g1 := hB7.frozen 1
      have g2 := hB7.frozen 2
      have g3 := hB7.frozen 3
      have x1 := (hL7.alloc (.cells #[.int .i64 1, .bool false, .int .i64 (n + 1), .int .i64 cd] 76)).cell 1
      have x2 := (hE7.alloc (.cells #[.int .i64 1, .bool false, .int .i64 (n + 1), .int .i64 cd] 76)).cell 2
      have y10 := (hB7.alloc (.cells #[.int .i64 1, .bool false, .int .i64 (n + 1), .int .i64 cd] 76)).cell 0
      have z10 := (hB7.alloc (.cells #[.int .i64 1, .bool false, .int .i64 (n + 1), .int .i64 cd] 76)).frozen 0
      have y11 := (hB7.alloc (.cells #[.int .i64 1, .bool false, .int .i64 (n + 1), .int .i64 cd] 76)).cell 1
      have z11 := (hB7.alloc (.cells #[.int .i64 1, .bool false, .int .i64 (n + 1), .int .i64 cd] 76)).frozen 1
      have y12 := (hB7.alloc (.cells #[.int .i64 1, .bool false, .int .i64 (n + 1), .int .i64 cd] 76)).cell 2
      have z12 := (hB7.alloc (.cells #[.int .i64 1, .bool false, .int .i64 (n + 1), .int .i64 cd] 76)).frozen 2
      have y13 := (hB7.alloc (.cells #[.int .i64 1, .bool false, .int .i64 (n + 1), .int .i64 cd] 76)).cell 3
      have z13 := (hB7.alloc (.cells #[.int .i64 1, .bool false, .int .i64 (n + 1), .int .i64 cd] 76)).frozen 3
      have y30 := (hB7.alloc (.cells #[.int .i64 3, .bool false, .int .i64 (n + 1), .int .i64 cd] 76)).cell 0
      have z30 := (hB7.alloc (.cells #[.int .i64 3, .bool false, .int .i64 (n + 1), .int .i64 cd] 76)).frozen 0
      have y31 := (hB7.alloc (.cells #[.int .i64 3, .bool false, .int .i64 (n + 1), .int .i64 cd] 76)).cell 1
      have z31 := (hB7.alloc (.cells #[.int .i64 3, .bool false, .int .i64 (n + 1), .int .i64 cd] 76)).frozen 1
      have y32 := (hB7.alloc (.cells #[.int .i64 3, .bool false, .int .i64 (n + 1), .int .i64 cd] 76)).cell 2
      have z32 := (hB7.alloc (.cells #[.int .i64 3, .bool false, .int .i64 (n + 1), .int .i64 cd] 76)).frozen 2
      have y33 := (hB7.alloc (.cells #[.int .i64 3, .bool false, .int .i64 (n + 1), .int .i64 cd] 76)).cell 3
      have z33 := (hB7.alloc (.cells #[.int .i64 3, .bool false, .int .i64 (n + 1), .int .i64 cd] 76)).frozen 3
      have HB7 := Lib.hid (And.intro hB7 (And.intro hX7 (And.intro hL7 hE7)))
      clear hB7 hX7 hL7 hE7 HB
      go_wp2_with fail
      · refine bodyPost_ret (results_cell_row_tmp (p := 4) (u := 5) (ty := 76) (by kernel_rfl) _ _ (w.heap.size + 1 + 1) 76 #[.int .i64 0, .bool false, .int .i64 0, .int .i64 0] (0, 0) _ rfl ((((HB7.out.1.set_ 0 _).set_ 1 _).set_ 2 _).set_ 3 _) Tryd.underlying76 rfl (by kernel_rfl)) rfl ?_
        refine ⟨?_, (((HB7.out.2.1.setCell (by simp; omega) _).setCell (by simp; omega) _).setCell (by simp; omega) _).setCell (by simp; omega) _⟩
        obtain ⟨hE, hL, hF, hC⟩ := HE.out
        rw [← hL, ← hE]
        simp only [stepL, stepE, hC, hF]
        unfold refB aftL lkV linkV
        simp_all
      · refine bodyPost_ret (results_cell_row_tmp (p := 4) (u := 5) (ty := 76) (by kernel_rfl) _ _ (w.heap.size + 1 + 1) 76 #[.int .i64 0, .bool false, .int .i64 0, .int .i64 0] (0, 0) _ rfl ((((HB7.out.1.set_ 0 _).set_ 1 _).set_ 2 _).set_ 3 _) Tryd.underlying76 rfl (by kernel_rfl)) rfl ?_
        refine ⟨?_, (((HB7.out.2.1.setCell (by simp; omega) _).setCell (by simp; omega) _).setCell (by simp; omega) _).setCell (by simp; omega) _⟩
        obtain ⟨hE, hL, hF, hC⟩ := HE.out
        rw [← hL, ← hE]
        simp only [stepL, stepE, hC, hF]
        unfold refB aftL lkV linkV
        simp_all
      · refine bodyPost_ret (results_cell_row_tmp (p := 4) (u := 5) (ty := 76) (by kernel_rfl) _ _ (w.heap.size + 1 + 1) 76 #[.int .i64 2, .bool cl, .int .i64 n, .int .i64 c] (0, 0) _ rfl ((((HB7.out.1.set_ 0 _).set_ 1 _).set_ 2 _).set_ 3 _) Tryd.underlying76 rfl (by kernel_rfl)) rfl ?_
        refine ⟨?_, (((HB7.out.2.1.setCell (by simp; omega) _).setCell (by simp; omega) _).setCell (by simp; omega) _).setCell (by simp; omega) _⟩
        obtain ⟨hE, hL, hF, hC⟩ := HE.out
        rw [← hL, ← hE]
        simp only [stepL, stepE, hC, hF]
        unfold refB aftL lkV linkV
        simp_all
      · refine bodyPost_ret (results_cell_row_tmp (p := 4) (u := 5) (ty := 76) (by kernel_rfl) _ _ (w.heap.size + 1 + 1) 76 #[.int .i64 3, .bool false, .int .i64 (n + 1), .int .i64 cd] (0, 0) _ rfl ((((HB7.out.1.set_ 0 _).set_ 1 _).set_ 2 _).set_ 3 _) Tryd.underlying76 rfl (by kernel_rfl)) rfl ?_
        refine ⟨?_, (((HB7.out.2.1.setCell (by simp; omega) _).setCell (by simp; omega) _).setCell (by simp; omega) _).setCell (by simp; omega) _⟩
        obtain ⟨hE, hL, hF, hC⟩ := HE.out
        rw [← hL, ← hE]
        simp only [stepL, stepE, hC, hF]
        unfold refB aftL lkV linkV
        simp_all
      · refine bodyPost_ret (results_cell_row_tmp (p := 4) (u := 5) (ty := 76) (by kernel_rfl) _ _ (w.heap.size + 1 + 1) 76 #[.int .i64 3, .bool false, .int .i64 n, .int .i64 c] (0, 0) _ rfl ((((HB7.out.1.set_ 0 _).set_ 1 _).set_ 2 _).set_ 3 _) Tryd.underlying76 rfl (by kernel_rfl)) rfl ?_
        refine ⟨?_, (((HB7.out.2.1.setCell (by simp; omega) _).setCell (by simp; omega) _).setCell (by simp; omega) _).setCell (by simp; omega) _⟩
        obtain ⟨hE, hL, hF, hC⟩ := HE.out
        rw [← hL, ← hE]
        simp only [stepL, stepE, hC, hF]
        unfold refB aftL lkV linkV
        simp_all
      · refine bodyPost_ret (results_cell_row_tmp (p := 4) (u := 5) (ty := 76) (by kernel_rfl) _ _ (w.heap.size + 1 + 1) 76 #[.int .i64 0, .bool false, .int .i64 0, .int .i64 0] (0, 0) _ rfl ((((HB7.out.1.set_ 0 _).set_ 1 _).set_ 2 _).set_ 3 _) Tryd.underlying76 rfl (by kernel_rfl)) rfl ?_
        refine ⟨?_, (((HB7.out.2.1.setCell (by simp; omega) _).setCell (by simp; omega) _).setCell (by simp; omega) _).setCell (by simp; omega) _⟩
        obtain ⟨hE, hL, hF, hC⟩ := HE.out
        rw [← hL, ← hE]
        simp only [stepL, stepE, hC, hF]
        unfold refB aftL lkV linkV
        simp_all
      · refine bodyPost_ret (results_cell_row_tmp (p := 4) (u := 5) (ty := 76) (by kernel_rfl) _ _ (w.heap.size + 1 + 1) 76 #[.int .i64 0, .bool false, .int .i64 0, .int .i64 0] (0, 0) _ rfl ((((HB7.out.1.set_ 0 _).set_ 1 _).set_ 2 _).set_ 3 _) Tryd.underlying76 rfl (by kernel_rfl)) rfl ?_
        refine ⟨?_, (((HB7.out.2.1.setCell (by simp; omega) _).setCell (by simp; omega) _).setCell (by simp; omega) _).setCell (by simp; omega) _⟩
        obtain ⟨hE, hL, hF, hC⟩ := HE.out
        rw [← hL, ← hE]
        simp only [stepL, stepE, hC, hF]
        unfold refB aftL lkV linkV
        simp_all
      · refine bodyPost_ret (results_cell_row_tmp (p := 4) (u := 5) (ty := 76) (by kernel_rfl) _ _ (w.heap.size + 1 + 1) 76 #[.int .i64 0, .bool false, .int .i64 0, .int .i64 0] (0, 0) _ rfl ((((HB7.out.1.set_ 0 _).set_ 1 _).set_ 2 _).set_ 3 _) Tryd.underlying76 rfl (by kernel_rfl)) rfl ?_
        refine ⟨?_, (((HB7.out.2.1.setCell (by simp; omega) _).setCell (by simp; omega) _).setCell (by simp; omega) _).setCell (by simp; omega) _⟩
        obtain ⟨hE, hL, hF, hC⟩ := HE.out
        rw [← hL, ← hE]
        simp only [stepL, stepE, hC, hF]
        unfold refB aftL lkV linkV
        simp_all
      · refine bodyPost_ret (results_cell_row_tmp (p := 4) (u := 5) (ty := 76) (by kernel_rfl) _ _ (w.heap.size + 1 + 1) 76 #[.int .i64 3, .bool false, .int .i64 (n + 1), .int .i64 cd] (0, 0) _ rfl (((((HB7.out.1.alloc _).set_ 0 _).set_ 1 _).set_ 2 _).set_ 3 _) Tryd.underlying76 rfl (by kernel_rfl)) rfl ?_
        refine ⟨?_, ((((HB7.out.2.1.alloc HB7.out.2.1.size _).setCell (by simp; omega) _).setCell (by simp; omega) _).setCell (by simp; omega) _).setCell (by simp; omega) _⟩
        obtain ⟨hE, hL, hF, hC⟩ := HE.out
        rw [← hL, ← hE]
        simp only [stepL, stepE, hC, hF]
        unfold refB aftL lkV linkV
        simp_all
      · refine bodyPost_ret (results_cell_row_tmp (p := 4) (u := 5) (ty := 76) (by kernel_rfl) _ _ (w.heap.size + 1 + 1) 76 #[.int .i64 3, .bool false, .int .i64 (n + 1), .int .i64 cd] (0, 0) _ rfl (((((HB7.out.1.alloc _).set_ 0 _).set_ 1 _).set_ 2 _).set_ 3 _) Tryd.underlying76 rfl (by kernel_rfl)) rfl ?_
        refine ⟨?_, ((((HB7.out.2.1.alloc HB7.out.2.1.size _).setCell (by simp; omega) _).setCell (by simp; omega) _).setCell (by simp; omega) _).setCell (by simp; omega) _⟩
        obtain ⟨hE, hL, hF, hC⟩ := HE.out
        rw [← hL, ← hE]
        simp only [stepL, stepE, hC, hF]
        unfold refB aftL lkV linkV
        simp_all
      · refine bodyPost_ret (results_cell_row_tmp (p := 4) (u := 5) (ty := 76) (by kernel_rfl) _ _ (w.heap.size + 1 + 1) 76 #[.int .i64 3, .bool false, .int .i64 (n + 1), .int .i64 cd] (0, 0) _ rfl (((((HB7.out.1.alloc _).set_ 0 _).set_ 1 _).set_ 2 _).set_ 3 _) Tryd.underlying76 rfl (by kernel_rfl)) rfl ?_
        refine ⟨?_, ((((HB7.out.2.1.alloc HB7.out.2.1.size _).setCell (by simp; omega) _).setCell (by simp; omega) _).setCell (by simp; omega) _).setCell (by simp; omega) _⟩
        obtain ⟨hE, hL, hF, hC⟩ := HE.out
        rw [← hL, ← hE]
        simp only [stepL, stepE, hC, hF]
        unfold refB aftL lkV linkV
        simp_all
      · refine bodyPost_ret (results_cell_row_tmp (p := 4) (u := 5) (ty := 76) (by kernel_rfl) _ _ (w.heap.size + 1 + 1) 76 #[.int .i64 1, .bool false, .int .i64 (n + 1), .int .i64 cd] (0, 0) _ rfl (((((HB7.out.1.alloc _).set_ 0 _).set_ 1 _).set_ 2 _).set_ 3 _) Tryd.underlying76 rfl (by kernel_rfl)) rfl ?_
        refine ⟨?_, ((((HB7.out.2.1.alloc HB7.out.2.1.size _).setCell (by simp; omega) _).setCell (by simp; omega) _).setCell (by simp; omega) _).setCell (by simp; omega) _⟩
        obtain ⟨hE, hL, hF, hC⟩ := HE.out
        rw [← hL, ← hE]
        simp only [stepL, stepE, hC, hF]
        unfold refB aftL lkV linkV
        simp_all
      · refine bodyPost_ret (results_cell_row_tmp (p := 4) (u := 5) (ty := 76) (by kernel_rfl) _ _ (w.heap.size + 1 + 1) 76 #[.int .i64 2, .bool true, .int .i64 n, .int .i64 c] (0, 0) _ rfl (((((HB7.out.1.far (p := ⟨w.heap.size, 1, none⟩) (show w.heap.size + 1 + 1 ≠ w.heap.size by omega) _).set_ 0 _).set_ 1 _).set_ 2 _).set_ 3 _) Tryd.underlying76 rfl (by kernel_rfl)) rfl ?_
        refine ⟨?_, ((((HB7.out.2.1.setCell (by simp) _).setCell (by simp; omega) _).setCell (by simp; omega) _).setCell (by simp; omega) _).setCell (by simp; omega) _⟩
        have q3 : (k == 3) = false := by assumption
        have q1 : ¬k = 1 := by assumption
        have q2 : ¬k = 2 := by assumption
        have hk4 : k = 4 := by
          have := beq_eq_false_iff_ne.1 q3
          omega
        obtain ⟨hE, hL, hF, hC⟩ := HE.out
        rw [← hL, ← hE]
        simp only [stepL, stepE, hC, hF]
        unfold refB aftL lkV linkV
        simp_all
      · refine bodyPost_ret (results_cell_row_tmp (p := 4) (u := 5) (ty := 76) (by kernel_rfl) _ _ (w.heap.size + 1 + 1) 76 #[.int .i64 0, .bool false, .int .i64 0, .int .i64 0] (0, 0) _ rfl ((((HB7.out.1.set_ 0 _).set_ 1 _).set_ 2 _).set_ 3 _) Tryd.underlying76 rfl (by kernel_rfl)) rfl ?_
        refine ⟨?_, (((HB7.out.2.1.setCell (by simp; omega) _).setCell (by simp; omega) _).setCell (by simp; omega) _).setCell (by simp; omega) _⟩
        obtain ⟨hE, hL, hF, hC⟩ := HE.out
        rw [← hL, ← hE]
        simp only [stepL, stepE, hC, hF]
        unfold refB aftL lkV linkV
        simp_all
end Go.Proofs.YtepemdmjbfoiaaaDoor
