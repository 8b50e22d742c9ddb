/-
  PersistSteps, the law.
-/
import Derived.Test.YtepemdmjbfoiaaaDoorPe11
namespace Go.Proofs.YtepemdmjbfoiaaaDoor
open Go.RowKit

set_option maxRecDepth 100000 in
set_option maxHeartbeats 16000000 in
theorem PersistSteps_true (s : Int) (a : Bool) (m d : Int) (k cd : Int) (cl : Bool) (w : World) :
    Calls Tryd.prog 20 #[.agg #[.int .i64 s, .bool a, .int .i64 m, .int .i64 d], .agg #[.int .i64 k, .int .i64 cd, .bool cl]] w fun e w' => e = .returned (.bool true) ∧ Below w.heap.size w w' := by
  have cP := fun w => pStep s a m d k cd cl w
  have cR := fun w => rStep s a m d k cd cl w
  have c1 := fun w => pCheck s a m d w
  have c2 := fun w => rCheck13 s a m d w
  have cM := fun w => pMay (s, a, m, d) w
  have cM' := fun w => rMay (s, a, m, d) w
  have cK := fun w => pKeep (s, a, m, d) cl w
  have cK' := fun w => rKeep (s, a, m, d) cl w
  unfold MayPost at cM cM'
  obtain ⟨E, hE⟩ : ∃ E, stepE s a m d k cd cl = E := ⟨_, rfl⟩
  obtain ⟨N, hN⟩ : ∃ N, stepL s a m d k cd cl = N := ⟨_, rfl⟩
  obtain ⟨C, hC⟩ : ∃ C, chkL s a m d = C := ⟨_, rfl⟩
  obtain ⟨⟨M, F⟩, hM⟩ : ∃ M, mayV (s, a, m, d) = M := ⟨_, rfl⟩
  have hMl : M.length ≤ 1000 := by
    have h1 : (mayV (s, a, m, d)).1.length ≤ 4 := by
      unfold mayV
      split
      · simp
      · exact mayL_len _ 4
    rw [hM] at h1
    simp only at h1
    omega
  obtain ⟨⟨K, J⟩, hK⟩ : ∃ K, keepV (s, a, m, d) cl = K := ⟨_, rfl⟩
  rw [hE, hN] at cP cR
  rw [hC] at c1 c2
  rw [hM] at cM cM'
  rw [hK] at cK cK'
  obtain ⟨s2, a2, m2, d2⟩ := N
  unfold lkV linkV evV at cP cR
  unfold linkV at c1 c2
  simp only at cP cR
  have CP := Lib.hid cP
  have CR := Lib.hid cR
  have C1 := Lib.hid c1
  have C2 := Lib.hid c2
  have CM := Lib.hid cM
  have CM' := Lib.hid cM'
  have CK := Lib.hid cK
  have CK' := Lib.hid cK'
  have CN := Lib.hid pNew
  have CN' := Lib.hid rNew
  have AW := Lib.hid awake13
  have hq : ∀ w, (binOp .neq 76 (.agg #[.int .i64 s2, .bool a2, .int .i64 m2, .int .i64 d2]) (.agg #[.int .i64 s2, .bool a2, .int .i64 m2, .int .i64 d2])).run Tryd.prog w = .ok (.bool false) w := fun w => by rw [neLk]; simp
  have hq0 : ∀ w, (binOp .neq 76 (.agg #[.int .i64 1, .bool false, .int .i64 0, .int .i64 0]) (.agg #[.int .i64 1, .bool false, .int .i64 0, .int .i64 0])).run Tryd.prog w = .ok (.bool false) w := fun w => by rw [neLk]; simp
  clear cP cR c1 c2 cM cM' cK cK' hE hN hC hM hK
  go_enter Tryd.func20, Tryd.ntmps20
  go_wp2_with fail
  (with_reducible refine (CP.out _).mono ?_); rintro e w1 ⟨rfl, g1⟩
  have h1 := (Below.refl w.heap.size w).alloc (Nat.le_refl _) (.cells #[.int .i64 s, .bool a, .int .i64 m, .int .i64 d] 76)
  have h2 := h1.alloc h1.size (.cells #[.int .i64 k, .int .i64 cd, .bool cl] 81)
  have kL : Blk w1 w.heap.size 76 #[.int .i64 s, .bool a, .int .i64 m, .int .i64 d] := Blk.below (Blk.alloc (Blk.new w _ _) _) g1 (by simp; omega)
  have kE : Blk w1 (w.heap.size + 1) 81 #[.int .i64 k, .int .i64 cd, .bool cl] := Blk.below (blk_at _ (by simp)) g1 (by simp)
  have hb := h2.trans (g1.mono h2.size)
  have kN := Blk.new w1 76 #[.int .i64 s2, .bool a2, .int .i64 m2, .int .i64 d2]
  have kL := kL.alloc (.cells #[.int .i64 s2, .bool a2, .int .i64 m2, .int .i64 d2] 76)
  have kE := kE.alloc (.cells #[.int .i64 s2, .bool a2, .int .i64 m2, .int .i64 d2] 76)
  have hb := hb.alloc hb.size (.cells #[.int .i64 s2, .bool a2, .int .i64 m2, .int .i64 d2] 76)
  obtain ⟨W1, hW1⟩ : ∃ W1, w1.alloc (.cells #[.int .i64 s2, .bool a2, .int .i64 m2, .int .i64 d2] 76) = W1 := ⟨_, rfl⟩
  obtain ⟨G5, hG5⟩ : ∃ G5, w1.heap.size = G5 := ⟨_, rfl⟩
  rw [hW1] at kN kL kE hb
  rw [hG5] at kN
  have b0 : W1.cell? ⟨w.heap.size, 0, none⟩ = some (.int .i64 s) := kL.cell 0
  have b1 : W1.cell? ⟨w.heap.size, 1, none⟩ = some (.bool a) := kL.cell 1
  have b2 : W1.cell? ⟨w.heap.size, 2, none⟩ = some (.int .i64 m) := kL.cell 2
  have b3 : W1.cell? ⟨w.heap.size, 3, none⟩ = some (.int .i64 d) := kL.cell 3
  have e0 : W1.cell? ⟨w.heap.size + 1, 0, none⟩ = some (.int .i64 k) := kE.cell 0
  have e1 : W1.cell? ⟨w.heap.size + 1, 1, none⟩ = some (.int .i64 cd) := kE.cell 1
  have e2 : W1.cell? ⟨w.heap.size + 1, 2, none⟩ = some (.bool cl) := kE.cell 2
  have HI := Lib.hid (And.intro kL (And.intro kE (And.intro kN hb)))
  clear kL kE kN hb g1 h1 h2
  go_wp2_with fail
  (with_reducible refine (CR.out _).mono ?_); rintro e w3 ⟨rfl, g3⟩
  clear b0 b1 b2 b3 e0 e1 e2
  have kL := (HI.out.1.below g3 HI.out.1.lt).alloc (.cells #[.int .i64 s2, .bool a2, .int .i64 m2, .int .i64 d2] 76)
  have kE := (HI.out.2.1.below g3 HI.out.2.1.lt).alloc (.cells #[.int .i64 s2, .bool a2, .int .i64 m2, .int .i64 d2] 76)
  have kN := (HI.out.2.2.1.below g3 HI.out.2.2.1.lt).alloc (.cells #[.int .i64 s2, .bool a2, .int .i64 m2, .int .i64 d2] 76)
  have kR := Blk.new w3 76 #[.int .i64 s2, .bool a2, .int .i64 m2, .int .i64 d2]
  have hb := HI.out.2.2.2.trans (g3.mono HI.out.2.2.2.size)
  have hb := hb.alloc hb.size (.cells #[.int .i64 s2, .bool a2, .int .i64 m2, .int .i64 d2] 76)
  clear hW1 hG5 HI
  obtain ⟨W2, hW2⟩ : ∃ W2, w3.alloc (.cells #[.int .i64 s2, .bool a2, .int .i64 m2, .int .i64 d2] 76) = W2 := ⟨_, rfl⟩
  obtain ⟨G7, hG7⟩ : ∃ G7, w3.heap.size = G7 := ⟨_, rfl⟩
  rw [hW2] at kL kE kN kR hb
  rw [hG7] at kR
  have S0 : Hid (∀ w', Below W2.heap.size W2 w' → (w'.cell? ⟨w.heap.size, 0, none⟩ = some (.int .i64 s) ∧ w'.cell? ⟨w.heap.size, 1, none⟩ = some (.bool a) ∧ w'.cell? ⟨w.heap.size, 2, none⟩ = some (.int .i64 m) ∧ w'.cell? ⟨w.heap.size, 3, none⟩ = some (.int .i64 d)) ∧ (w'.cell? ⟨G5, 0, none⟩ = some (.int .i64 s2) ∧ w'.cell? ⟨G5, 1, none⟩ = some (.bool a2) ∧ w'.cell? ⟨G5, 2, none⟩ = some (.int .i64 m2) ∧ w'.cell? ⟨G5, 3, none⟩ = some (.int .i64 d2)) ∧ (w'.cell? ⟨G7, 0, none⟩ = some (.int .i64 s2) ∧ w'.cell? ⟨G7, 1, none⟩ = some (.bool a2) ∧ w'.cell? ⟨G7, 2, none⟩ = some (.int .i64 m2) ∧ w'.cell? ⟨G7, 3, none⟩ = some (.int .i64 d2))) := hide fun w' hw => by
    have q1 := kL.below hw kL.lt
    have q2 := kN.below hw kN.lt
    have q3 := kR.below hw kR.lt
    exact ⟨⟨q1.cell 0, q1.cell 1, q1.cell 2, q1.cell 3⟩, ⟨q2.cell 0, q2.cell 1, q2.cell 2, q2.cell 3⟩, q3.cell 0, q3.cell 1, q3.cell 2, q3.cell 3⟩
  have K1 : Hid (∀ X, Below W2.heap.size W2 X → Calls Tryd.prog 86 #[.agg #[.int .i64 s, .bool a, .int .i64 m, .int .i64 d]] X fun e w' => e = .returned (.int .i64 C) ∧ Hid (Below W2.heap.size W2 w') ∧ ((w'.cell? ⟨w.heap.size, 0, none⟩ = some (.int .i64 s) ∧ w'.cell? ⟨w.heap.size, 1, none⟩ = some (.bool a) ∧ w'.cell? ⟨w.heap.size, 2, none⟩ = some (.int .i64 m) ∧ w'.cell? ⟨w.heap.size, 3, none⟩ = some (.int .i64 d)) ∧ (w'.cell? ⟨G5, 0, none⟩ = some (.int .i64 s2) ∧ w'.cell? ⟨G5, 1, none⟩ = some (.bool a2) ∧ w'.cell? ⟨G5, 2, none⟩ = some (.int .i64 m2) ∧ w'.cell? ⟨G5, 3, none⟩ = some (.int .i64 d2)) ∧ (w'.cell? ⟨G7, 0, none⟩ = some (.int .i64 s2) ∧ w'.cell? ⟨G7, 1, none⟩ = some (.bool a2) ∧ w'.cell? ⟨G7, 2, none⟩ = some (.int .i64 m2) ∧ w'.cell? ⟨G7, 3, none⟩ = some (.int .i64 d2)))) := hide fun X hX => (C1.out X).mono fun e w' ⟨he, hb'⟩ => ⟨he, hide (hX.trans (hb'.mono hX.size)), S0.out _ (hX.trans (hb'.mono hX.size))⟩
  have K2 : Hid (∀ X, Below W2.heap.size W2 X → Calls Tryd.prog 93 #[.agg #[.int .i64 s, .bool a, .int .i64 m, .int .i64 d]] X fun e w' => e = .returned (.int .i64 C) ∧ Hid (Below W2.heap.size W2 w') ∧ ((w'.cell? ⟨w.heap.size, 0, none⟩ = some (.int .i64 s) ∧ w'.cell? ⟨w.heap.size, 1, none⟩ = some (.bool a) ∧ w'.cell? ⟨w.heap.size, 2, none⟩ = some (.int .i64 m) ∧ w'.cell? ⟨w.heap.size, 3, none⟩ = some (.int .i64 d)) ∧ (w'.cell? ⟨G5, 0, none⟩ = some (.int .i64 s2) ∧ w'.cell? ⟨G5, 1, none⟩ = some (.bool a2) ∧ w'.cell? ⟨G5, 2, none⟩ = some (.int .i64 m2) ∧ w'.cell? ⟨G5, 3, none⟩ = some (.int .i64 d2)) ∧ (w'.cell? ⟨G7, 0, none⟩ = some (.int .i64 s2) ∧ w'.cell? ⟨G7, 1, none⟩ = some (.bool a2) ∧ w'.cell? ⟨G7, 2, none⟩ = some (.int .i64 m2) ∧ w'.cell? ⟨G7, 3, none⟩ = some (.int .i64 d2)))) := hide fun X hX => (C2.out X).mono fun e w' ⟨he, hb'⟩ => ⟨he, hide (hX.trans (hb'.mono hX.size)), S0.out _ (hX.trans (hb'.mono hX.size))⟩
  have K3 : Hid (∀ X, Below W2.heap.size W2 X → Calls Tryd.prog 77 #[] X fun e w' => e = .returned (.agg #[.int .i64 1, .bool false, .int .i64 0, .int .i64 0]) ∧ Hid (Below W2.heap.size W2 w') ∧ ((w'.cell? ⟨w.heap.size, 0, none⟩ = some (.int .i64 s) ∧ w'.cell? ⟨w.heap.size, 1, none⟩ = some (.bool a) ∧ w'.cell? ⟨w.heap.size, 2, none⟩ = some (.int .i64 m) ∧ w'.cell? ⟨w.heap.size, 3, none⟩ = some (.int .i64 d)) ∧ (w'.cell? ⟨G5, 0, none⟩ = some (.int .i64 s2) ∧ w'.cell? ⟨G5, 1, none⟩ = some (.bool a2) ∧ w'.cell? ⟨G5, 2, none⟩ = some (.int .i64 m2) ∧ w'.cell? ⟨G5, 3, none⟩ = some (.int .i64 d2)) ∧ (w'.cell? ⟨G7, 0, none⟩ = some (.int .i64 s2) ∧ w'.cell? ⟨G7, 1, none⟩ = some (.bool a2) ∧ w'.cell? ⟨G7, 2, none⟩ = some (.int .i64 m2) ∧ w'.cell? ⟨G7, 3, none⟩ = some (.int .i64 d2)))) := hide fun X hX => (CN.out X).mono fun e w' ⟨he, hb'⟩ => ⟨he, hide (hX.trans (hb'.mono hX.size)), S0.out _ (hX.trans (hb'.mono hX.size))⟩
  have K4 : Hid (∀ X, Below W2.heap.size W2 X → Calls Tryd.prog 94 #[] X fun e w' => e = .returned (.agg #[.int .i64 1, .bool false, .int .i64 0, .int .i64 0]) ∧ Hid (Below W2.heap.size W2 w') ∧ ((w'.cell? ⟨w.heap.size, 0, none⟩ = some (.int .i64 s) ∧ w'.cell? ⟨w.heap.size, 1, none⟩ = some (.bool a) ∧ w'.cell? ⟨w.heap.size, 2, none⟩ = some (.int .i64 m) ∧ w'.cell? ⟨w.heap.size, 3, none⟩ = some (.int .i64 d)) ∧ (w'.cell? ⟨G5, 0, none⟩ = some (.int .i64 s2) ∧ w'.cell? ⟨G5, 1, none⟩ = some (.bool a2) ∧ w'.cell? ⟨G5, 2, none⟩ = some (.int .i64 m2) ∧ w'.cell? ⟨G5, 3, none⟩ = some (.int .i64 d2)) ∧ (w'.cell? ⟨G7, 0, none⟩ = some (.int .i64 s2) ∧ w'.cell? ⟨G7, 1, none⟩ = some (.bool a2) ∧ w'.cell? ⟨G7, 2, none⟩ = some (.int .i64 m2) ∧ w'.cell? ⟨G7, 3, none⟩ = some (.int .i64 d2)))) := hide fun X hX => (CN'.out X).mono fun e w' ⟨he, hb'⟩ => ⟨he, hide (hX.trans (hb'.mono hX.size)), S0.out _ (hX.trans (hb'.mono hX.size))⟩
  obtain ⟨⟨b0, b1, b2, b3⟩, ⟨n0, n1, n2, n3⟩, r0, r1, r2, r3⟩ := S0.out W2 (Below.refl _ _)
  have HI := Lib.hid (And.intro kL (And.intro kE (And.intro kN (And.intro kR hb))))
  have HD : Hid (Below W2.heap.size W2 W2.drew) := hide (Below.refl _ _).drew
  clear kL kE kN kR hb g3
  go_wp2_with fail
  clear hW2 hG7
  go_region_held (fun w' => (w'.cell? ⟨w.heap.size, 0, none⟩ = some (.int .i64 s) ∧ w'.cell? ⟨w.heap.size, 1, none⟩ = some (.bool a) ∧ w'.cell? ⟨w.heap.size, 2, none⟩ = some (.int .i64 m) ∧ w'.cell? ⟨w.heap.size, 3, none⟩ = some (.int .i64 d)) ∧ (w'.cell? ⟨G5, 0, none⟩ = some (.int .i64 s2) ∧ w'.cell? ⟨G5, 1, none⟩ = some (.bool a2) ∧ w'.cell? ⟨G5, 2, none⟩ = some (.int .i64 m2) ∧ w'.cell? ⟨G5, 3, none⟩ = some (.int .i64 d2)) ∧ (w'.cell? ⟨G7, 0, none⟩ = some (.int .i64 s2) ∧ w'.cell? ⟨G7, 1, none⟩ = some (.bool a2) ∧ w'.cell? ⟨G7, 2, none⟩ = some (.int .i64 m2) ∧ w'.cell? ⟨G7, 3, none⟩ = some (.int .i64 d2))) (go_keep)
    (first
      | (go_at_call 86; (with_reducible refine (K1.out _ (by first | assumption | exact Hid.out (by assumption))).mono ?_); rintro r w9 ⟨rfl, hw9, ⟨j0, j1, j2, j3⟩, ⟨y0, y1, y2, y3⟩, z0, z1, z2, z3⟩)
      | (go_at_call 93; (with_reducible refine (K2.out _ (by first | assumption | exact Hid.out (by assumption))).mono ?_); rintro r w9 ⟨rfl, hw9, ⟨j0, j1, j2, j3⟩, ⟨y0, y1, y2, y3⟩, z0, z1, z2, z3⟩)
      | (go_at_call 77; (with_reducible refine (K3.out _ (by first | assumption | exact Hid.out (by assumption))).mono ?_); rintro r w9 ⟨rfl, hw9, ⟨j0, j1, j2, j3⟩, ⟨y0, y1, y2, y3⟩, z0, z1, z2, z3⟩)
      | (go_at_call 94; (with_reducible refine (K4.out _ (by first | assumption | exact Hid.out (by assumption))).mono ?_); rintro r w9 ⟨rfl, hw9, ⟨j0, j1, j2, j3⟩, ⟨y0, y1, y2, y3⟩, z0, z1, z2, z3⟩))
  all_goals (
    have hbX := HI.out.2.2.2.2.trans (hw9.out.mono HI.out.2.2.2.2.size)
    have kL := HI.out.1.below hw9.out HI.out.1.lt
    have kE := HI.out.2.1.below hw9.out HI.out.2.1.lt
    have b0 : w9.cell? ⟨w.heap.size, 0, none⟩ = some (.int .i64 s) := kL.cell 0
    have b1 : w9.cell? ⟨w.heap.size, 1, none⟩ = some (.bool a) := kL.cell 1
    have b2 : w9.cell? ⟨w.heap.size, 2, none⟩ = some (.int .i64 m) := kL.cell 2
    have b3 : w9.cell? ⟨w.heap.size, 3, none⟩ = some (.int .i64 d) := kL.cell 3
    have e2 : w9.cell? ⟨w.heap.size + 1, 2, none⟩ = some (.bool cl) := kE.cell 2
    have HJ := Lib.hid (And.intro kL (And.intro kE hbX))
    clear kL kE hbX j0 j1 j2 j3 y0 y1 y2 y3 z0 z1 z2 z3
    go_wp2_with fail
    (with_reducible refine (CM.out _).mono ?_); rintro e u1 ⟨A1, c1, rfl, _, r1, g1⟩
    clear b0 b1 b2 b3 e2
    have kL := HJ.out.1.below g1 HJ.out.1.lt
    have kE := HJ.out.2.1.below g1 HJ.out.2.1.lt
    have hbX := HJ.out.2.2.trans (g1.mono HJ.out.2.2.size)
    have b0 : u1.cell? ⟨w.heap.size, 0, none⟩ = some (.int .i64 s) := kL.cell 0
    have b1 : u1.cell? ⟨w.heap.size, 1, none⟩ = some (.bool a) := kL.cell 1
    have b2 : u1.cell? ⟨w.heap.size, 2, none⟩ = some (.int .i64 m) := kL.cell 2
    have b3 : u1.cell? ⟨w.heap.size, 3, none⟩ = some (.int .i64 d) := kL.cell 3
    have H1 := Lib.hid (And.intro kL (And.intro kE (And.intro hbX r1)))
    clear kL kE hbX r1 g1
    go_wp2_with fail
    (with_reducible refine (CM'.out _).mono ?_); rintro e u2 ⟨A2, c2, rfl, _, r2, g2⟩
    clear b0 b1 b2 b3
    have kL := H1.out.1.below g2 H1.out.1.lt
    have kE := H1.out.2.1.below g2 H1.out.2.1.lt
    have hbX := H1.out.2.2.1.trans (g2.mono H1.out.2.2.1.size)
    have r1 := (H1.out.2.2.2.below g2).more g2.size
    have b0 : u2.cell? ⟨w.heap.size, 0, none⟩ = some (.int .i64 s) := kL.cell 0
    have b1 : u2.cell? ⟨w.heap.size, 1, none⟩ = some (.bool a) := kL.cell 1
    have b2 : u2.cell? ⟨w.heap.size, 2, none⟩ = some (.int .i64 m) := kL.cell 2
    have b3 : u2.cell? ⟨w.heap.size, 3, none⟩ = some (.int .i64 d) := kL.cell 3
    have e2 : u2.cell? ⟨w.heap.size + 1, 2, none⟩ = some (.bool cl) := kE.cell 2
    have H2 := Lib.hid (And.intro kL (And.intro kE (And.intro hbX (And.intro r1 r2))))
    clear kL kE hbX r1 r2 g2
    go_wp2_with fail
    (with_reducible refine (CK.out _).mono ?_); rintro e u3 ⟨rfl, g3⟩
    clear b0 b1 b2 b3 e2
    have kL := H2.out.1.below g3 H2.out.1.lt
    have kE := H2.out.2.1.below g3 H2.out.2.1.lt
    have hbX := H2.out.2.2.1.trans (g3.mono H2.out.2.2.1.size)
    have r1 := (H2.out.2.2.2.1.below g3).more g3.size
    have r2 := (H2.out.2.2.2.2.below g3).more g3.size
    have b0 : u3.cell? ⟨w.heap.size, 0, none⟩ = some (.int .i64 s) := kL.cell 0
    have b1 : u3.cell? ⟨w.heap.size, 1, none⟩ = some (.bool a) := kL.cell 1
    have b2 : u3.cell? ⟨w.heap.size, 2, none⟩ = some (.int .i64 m) := kL.cell 2
    have b3 : u3.cell? ⟨w.heap.size, 3, none⟩ = some (.int .i64 d) := kL.cell 3
    have e2 : u3.cell? ⟨w.heap.size + 1, 2, none⟩ = some (.bool cl) := kE.cell 2
    have H3 := Lib.hid (And.intro hbX (And.intro r1 r2))
    clear kL kE hbX r1 r2 g3
    go_wp2_with fail
    (with_reducible refine (CK'.out _).mono ?_); rintro e u4 ⟨rfl, g4⟩
    clear b0 b1 b2 b3 e2
    have hbX := H3.out.1.trans (g4.mono H3.out.1.size)
    have CS := Lib.hid (SameInts_eq A1 A2 M.length c1 c2 M u4 ((H3.out.2.1.below g4).more g4.size) ((H3.out.2.2.below g4).more g4.size) (by omega))
    clear g4
    go_wp2_with fail
    (with_reducible refine (CS.out).mono ?_); rintro e u5 ⟨rfl, g5⟩
    have hbY := hbX.trans (g5.mono hbX.size)
    clear g5 hbX
    go_wp2_with fail
    (with_reducible refine (AW.out _).mono ?_); rintro e u6 ⟨rfl, g6⟩
    go_wp2_with fail
    go_ret
    exact ⟨rfl, hbY.trans (g6.mono hbY.size)⟩)
end Go.Proofs.YtepemdmjbfoiaaaDoor
