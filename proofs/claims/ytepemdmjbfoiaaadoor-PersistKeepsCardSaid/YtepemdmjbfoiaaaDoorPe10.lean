/-
  Keep of both sides; May of the reference.
-/
import Derived.Test.YtepemdmjbfoiaaaDoorPe9
import Derived.Deep.RegionHeld3
namespace Go.Proofs.YtepemdmjbfoiaaaDoor
open Go.RowKit

def keepV (l : Lk) (b : Bool) : Bool × Nat := if ckL l ≠ 0 then (false, ckL l) else if l.1 ≠ 2 then (false, 9) else (stE l (3, 200, b) == 0 && (stL l (3, 200, b)).1 == 1, stE l (3, 200, b))
theorem stL_bad {l : Lk} {e : Ev} (h : stE l e ≠ 0) : stL l e = (0, false, 0, 0) := by
  unfold stL stepL
  exact if_pos h

set_option maxRecDepth 100000 in
set_option maxHeartbeats 8000000 in
theorem pKeep (l : Lk) (b : Bool) (w : World) : Calls Tryd.prog 81 #[.agg #[.int .i64 l.1, .bool l.2.1, .int .i64 l.2.2.1, .int .i64 l.2.2.2], .bool b] w fun e w' => e = .returned (.tuple #[.bool (keepV l b).1, .int .i64 (keepV l b).2]) ∧ Below w.heap.size w w' := by
  obtain ⟨s, a, m, d⟩ := l
  have cC := fun w => pCheck s a m d w
  obtain ⟨C, hC⟩ : ∃ C, chkL s a m d = C := ⟨_, rfl⟩
  have cS := fun w => pStep s a m d 3 200 b w
  obtain ⟨E, hE⟩ : ∃ E, stepE s a m d 3 200 b = E := ⟨_, rfl⟩
  obtain ⟨N, hN⟩ : ∃ N, stepL s a m d 3 200 b = N := ⟨_, rfl⟩
  have hV : keepV (s, a, m, d) b = if C ≠ 0 then (false, C) else if s ≠ 2 then (false, 9) else (E == 0 && N.1 == 1, E) := by rw [← hC, ← hE, ← hN]; rfl
  have hBad : E ≠ 0 → N = (0, false, 0, 0) := fun h => by rw [← hN]; exact stL_bad (l := (s, a, m, d)) (e := (3, 200, b)) (by rw [← hE] at h; exact h)
  rw [hV]
  rw [hC] at cC
  rw [hE, hN] at cS
  obtain ⟨s2, a2, m2, d2⟩ := N
  unfold linkV at cC
  unfold lkV linkV evV at cS
  have CC := Lib.hid cC
  have CS := Lib.hid cS
  have HBD := Lib.hid hBad
  clear cC cS hC hE hN hV hBad
  simp only
  by_cases h0 : C ≠ 0
  · rw [if_pos h0]
    have e2 : ((C : Int) != 0) = true := by rw [bne_iff_ne]; omega
    have e3 : ((C : Int) == 0) = false := beq_eq_false_iff_ne.2 (by omega)
    go_enter Tryd.func81, Tryd.ntmps81
    go_wp2_with fail
    (with_reducible refine (CC.out _).mono ?_); rintro e w1 ⟨rfl, g1⟩
    go_wp2_with fail
    go_ret2
    exact ⟨rfl, ((Below.refl _ _).alloc (Nat.le_refl _) _).trans (g1.mono (by simp))⟩
  · have hC0 : C = 0 := by omega
    subst hC0
    rw [if_neg (by simp)]
    clear h0
    obtain ⟨R, hR⟩ : ∃ R, (if s ≠ 2 then (false, 9) else (E == 0 && s2 == 1, E)) = R := ⟨_, rfl⟩
    rw [hR]
    have HR := Lib.hid hR
    clear hR
    go_enter Tryd.func81, Tryd.ntmps81
    go_wp2_with fail
    (with_reducible refine (CC.out _).mono ?_); rintro e w1 ⟨rfl, g1⟩
    have kL : Blk w1 w.heap.size 76 #[.int .i64 s, .bool a, .int .i64 m, .int .i64 d] := Blk.below (Blk.new w _ _) g1 (by simp)
    have hbX := ((Below.refl w.heap.size w).alloc (Nat.le_refl _) (.cells #[.int .i64 s, .bool a, .int .i64 m, .int .i64 d] 76)).trans (g1.mono (by simp))
    have b0 : w1.cell? ⟨w.heap.size, 0, none⟩ = some (.int .i64 s) := kL.cell 0
    have b1 : w1.cell? ⟨w.heap.size, 1, none⟩ = some (.bool a) := kL.cell 1
    have b2 : w1.cell? ⟨w.heap.size, 2, none⟩ = some (.int .i64 m) := kL.cell 2
    have b3 : w1.cell? ⟨w.heap.size, 3, none⟩ = some (.int .i64 d) := kL.cell 3
    have HB := Lib.hid (And.intro kL hbX)
    clear kL g1 hbX
    go_wp2_with fail
    (with_reducible refine (CS.out _).mono ?_); rintro e w2 ⟨rfl, g2⟩
    clear b0 b1 b2 b3
    have kL := (HB.out.1.below g2 HB.out.1.lt).alloc (.cells #[.int .i64 s2, .bool a2, .int .i64 m2, .int .i64 d2] 76)
    have hb2 := (HB.out.2.trans (g2.mono HB.out.2.size))
    have hb3 := hb2.alloc hb2.size (.cells #[.int .i64 s2, .bool a2, .int .i64 m2, .int .i64 d2] 76)
    have b0 : (w2.alloc (.cells #[.int .i64 s2, .bool a2, .int .i64 m2, .int .i64 d2] 76)).cell? ⟨w.heap.size, 0, none⟩ = some (.int .i64 s) := kL.cell 0
    clear kL g2 hb2
    by_cases hE0 : E = 0
    · subst hE0
      have e1 : (((0 : Nat) : Int) == 0) = true := rfl
      go_wp2_with fail
      all_goals (
        go_ret2
        refine ⟨?_, hb3⟩
        rw [← HR.out]
        simp_all)
    · have e1 : ((E : Int) == 0) = false := beq_eq_false_iff_ne.2 (by omega)
      go_wp2_with fail
      all_goals (
        go_ret2
        refine ⟨?_, hb3⟩
        rw [← HR.out]
        simp_all)

set_option maxRecDepth 100000 in
set_option maxHeartbeats 8000000 in
theorem rKeep (l : Lk) (b : Bool) (w : World) : Calls Tryd.prog 96 #[.agg #[.int .i64 l.1, .bool l.2.1, .int .i64 l.2.2.1, .int .i64 l.2.2.2], .bool b] w fun e w' => e = .returned (.tuple #[.bool (keepV l b).1, .int .i64 (keepV l b).2]) ∧ Below w.heap.size w w' := by
  obtain ⟨s, a, m, d⟩ := l
  have cC := fun w => rCheck13 s a m d w
  obtain ⟨C, hC⟩ : ∃ C, chkL s a m d = C := ⟨_, rfl⟩
  have cS := fun w => rStep s a m d 3 200 b w
  obtain ⟨E, hE⟩ : ∃ E, stepE s a m d 3 200 b = E := ⟨_, rfl⟩
  obtain ⟨N, hN⟩ : ∃ N, stepL s a m d 3 200 b = N := ⟨_, rfl⟩
  have hV : keepV (s, a, m, d) b = if C ≠ 0 then (false, C) else if s ≠ 2 then (false, 9) else (E == 0 && N.1 == 1, E) := by rw [← hC, ← hE, ← hN]; rfl
  have hBad : E ≠ 0 → N = (0, false, 0, 0) := fun h => by rw [← hN]; exact stL_bad (l := (s, a, m, d)) (e := (3, 200, b)) (by rw [← hE] at h; exact h)
  rw [hV]
  rw [hC] at cC
  rw [hE, hN] at cS
  obtain ⟨s2, a2, m2, d2⟩ := N
  unfold linkV at cC
  unfold lkV linkV evV at cS
  have CC := Lib.hid cC
  have CS := Lib.hid cS
  have HBD := Lib.hid hBad
  clear cC cS hC hE hN hV hBad
  simp only
  by_cases h0 : C ≠ 0
  · rw [if_pos h0]
    have e2 : ((C : Int) != 0) = true := by rw [bne_iff_ne]; omega
    have e3 : ((C : Int) == 0) = false := beq_eq_false_iff_ne.2 (by omega)
    go_enter Tryd.func96, Tryd.ntmps96
    go_wp2_with fail
    (with_reducible refine (CC.out _).mono ?_); rintro e w1 ⟨rfl, g1⟩
    go_wp2_with fail
    go_ret2
    exact ⟨rfl, ((Below.refl _ _).alloc (Nat.le_refl _) _).trans (g1.mono (by simp))⟩
  · have hC0 : C = 0 := by omega
    subst hC0
    rw [if_neg (by simp)]
    clear h0
    obtain ⟨R, hR⟩ : ∃ R, (if s ≠ 2 then (false, 9) else (E == 0 && s2 == 1, E)) = R := ⟨_, rfl⟩
    rw [hR]
    have HR := Lib.hid hR
    clear hR
    go_enter Tryd.func96, Tryd.ntmps96
    go_wp2_with fail
    (with_reducible refine (CC.out _).mono ?_); rintro e w1 ⟨rfl, g1⟩
    have kL : Blk w1 w.heap.size 76 #[.int .i64 s, .bool a, .int .i64 m, .int .i64 d] := Blk.below (Blk.new w _ _) g1 (by simp)
    have hbX := ((Below.refl w.heap.size w).alloc (Nat.le_refl _) (.cells #[.int .i64 s, .bool a, .int .i64 m, .int .i64 d] 76)).trans (g1.mono (by simp))
    have b0 : w1.cell? ⟨w.heap.size, 0, none⟩ = some (.int .i64 s) := kL.cell 0
    have b1 : w1.cell? ⟨w.heap.size, 1, none⟩ = some (.bool a) := kL.cell 1
    have b2 : w1.cell? ⟨w.heap.size, 2, none⟩ = some (.int .i64 m) := kL.cell 2
    have b3 : w1.cell? ⟨w.heap.size, 3, none⟩ = some (.int .i64 d) := kL.cell 3
    have HB := Lib.hid (And.intro kL hbX)
    clear kL g1 hbX
    by_cases hs2 : s = 2
    · subst hs2
      go_wp2_with fail
      (with_reducible refine (CS.out _).mono ?_); rintro e w2 ⟨rfl, g2⟩
      clear b0 b1 b2 b3
      have hb2 := (HB.out.2.trans (g2.mono HB.out.2.size))
      have hb3 := hb2.alloc hb2.size (.cells #[.int .i64 s2, .bool a2, .int .i64 m2, .int .i64 d2] 76)
      clear g2 hb2
      go_wp2_with fail
      go_ret2
      refine ⟨?_, hb3⟩
      rw [← HR.out]
      by_cases hE0 : E = 0
      · subst hE0
        simp
      · have hB := HBD.out hE0
        simp only [Prod.mk.injEq] at hB
        obtain ⟨rfl, _⟩ := hB
        simp
    · have e1 : (s != 2) = true := by rw [bne_iff_ne]; exact hs2
      have hR := HR.out
      rw [if_pos hs2] at hR
      subst hR
      go_wp2_with fail
      go_ret2
      exact ⟨rfl, HB.out.2⟩

set_option maxRecDepth 100000 in
set_option maxHeartbeats 16000000 in
theorem rMay (l : Lk) (w : World) : Calls Tryd.prog 95 #[.agg #[.int .i64 l.1, .bool l.2.1, .int .i64 l.2.2.1, .int .i64 l.2.2.2]] w (MayPost (mayV l) w) := by
  obtain ⟨s, a, m, d⟩ := l
  have cC := fun w => rCheck13 s a m d w
  obtain ⟨C, hC⟩ : ∃ C, chkL s a m d = C := ⟨_, rfl⟩
  have hV : mayV (s, a, m, d) = if C ≠ 0 then ([], C) else (mayL (s, a, m, d) 4, 0) := by rw [← hC]; rfl
  rw [hV]
  rw [hC] at cC
  unfold linkV at cC
  have CC := Lib.hid cC
  have CS := Lib.hid (fun k cd cl w => rStep s a m d k cd cl w)
  clear cC hC hV
  simp only
  by_cases h0 : C ≠ 0
  · rw [if_pos h0]
    have e2 : ((C : Int) != 0) = true := by rw [bne_iff_ne]; omega
    go_enter Tryd.func95, Tryd.ntmps95
    go_wp2_with fail
    (with_reducible refine (CC.out _).mono ?_); rintro e w1 ⟨rfl, g1⟩
    go_wp2_with fail
    go_ret2
    exact ⟨none, 0, rfl, Nat.zero_le _, Reads.none_, ((Below.refl _ _).alloc (Nat.le_refl _) _).trans (g1.mono (by simp))⟩
  · have hC0 : C = 0 := by omega
    subst hC0
    rw [if_neg (by simp)]
    clear h0
    go_enter Tryd.func95, Tryd.ntmps95
    go_wp2_with fail
    (with_reducible refine (CC.out _).mono ?_); rintro e w1 ⟨rfl, g1⟩
    have kL : Blk w1 w.heap.size 76 #[.int .i64 s, .bool a, .int .i64 m, .int .i64 d] := Blk.below (Blk.new w _ _) g1 (by simp)
    have hbX := ((Below.refl w.heap.size w).alloc (Nat.le_refl _) (.cells #[.int .i64 s, .bool a, .int .i64 m, .int .i64 d] 76)).trans (g1.mono (by simp))
    obtain ⟨G, hG⟩ : ∃ G, w1.heap.size = G := ⟨_, rfl⟩
    have kG := blk_at (t := 3) (cs := #[.int .i64 0, .int .i64 400, .int .i64 200, .int .i64 0]) w1 hG
    have HB := Lib.hid (And.intro (kL.alloc (.cells #[.int .i64 0, .int .i64 400, .int .i64 200, .int .i64 0] 3)) (And.intro kG (hbX.alloc hbX.size (.cells #[.int .i64 0, .int .i64 400, .int .i64 200, .int .i64 0] 3))))
    have hGw : w.heap.size < G := by rw [← hG]; exact kL.lt
    clear kL g1 hbX kG
    go_wp2_with fail
    clear hG
    go_loopw [5, 7] (fun o i wr => ∃ (j : Nat) (iv : Int), i = .int .i64 iv ∧ iv = (j : Int) + 1 ∧ j ≤ 4 ∧ Hid (wr.ownsRow (G + 1) 3 1 o (mayL (s, a, m, d) j).length (ints (mayL (s, a, m, d) j)) ∧ Blk wr w.heap.size 76 #[.int .i64 s, .bool a, .int .i64 m, .int .i64 d] ∧ Blk wr G 3 #[.int .i64 0, .int .i64 400, .int .i64 200, .int .i64 0] ∧ Below w.heap.size w wr)) (fun _ i _ => 5 - (intOf i).toNat)
    case atStart => exact ⟨0, 1, rfl, rfl, by omega, hide ⟨World.ownsRow_nil _ _ _ _, HB.out⟩⟩
    case round =>
      obtain ⟨j, iv, rfl, hiv, hj, HO⟩ := hrel
      rename World => W0
      obtain rfl | rfl | rfl | rfl | rfl : j = 0 ∨ j = 1 ∨ j = 2 ∨ j = 3 ∨ j = 4 := by omega
      · obtain rfl : iv = 1 := by omega
        clear hiv hj
        obtain ⟨hO, kL, kG, hb⟩ := HO.out
        have cS := fun w => CS.out 1 0 false w
        obtain ⟨E, hE⟩ : ∃ E, stepE s a m d 1 0 false = E := ⟨_, rfl⟩
        obtain ⟨N, hN⟩ : ∃ N, stepL s a m d 1 0 false = N := ⟨_, rfl⟩
        rw [hE, hN] at cS
        obtain ⟨s2, a2, m2, d2⟩ := N
        unfold lkV linkV evV at cS
        simp only at cS
        have hlen := mayL_len (s, a, m, d) 0
        have HF := Lib.hid (show mayF (s, a, m, d) 1 = (E == 0) by rw [← hE]; exact congrArg (· == 0) (show stE (s, a, m, d) _ = stE (s, a, m, d) (1, 0, false) by first | rfl | exact fit23 _))
        have HI := Lib.hid (And.intro hO (And.intro kL (And.intro kG hb)))
        have S0 : Hid (∀ w', Below W0.heap.size W0 w' → (w'.cell? ⟨w.heap.size, 0, none⟩ = some (.int .i64 s) ∧ w'.cell? ⟨w.heap.size, 1, none⟩ = some (.bool a) ∧ w'.cell? ⟨w.heap.size, 2, none⟩ = some (.int .i64 m) ∧ w'.cell? ⟨w.heap.size, 3, none⟩ = some (.int .i64 d)) ∧ w'.cell? ⟨G, 0, none⟩ = some (.int .i64 0)) := hide fun w' hw => by
          have h1 := kL.below hw kL.lt
          have h2 := kG.below hw kG.lt
          exact ⟨⟨h1.cell 0, h1.cell 1, h1.cell 2, h1.cell 3⟩, h2.cell 0⟩
        have cA : Hid (∀ X, X = W0.drew → Calls Tryd.prog 92 #[.agg #[.int .i64 s, .bool a, .int .i64 m, .int .i64 d], .agg #[.int .i64 1, .int .i64 0, .bool false]] X fun e w' => e = .returned (.tuple #[.agg #[.int .i64 s2, .bool a2, .int .i64 m2, .int .i64 d2], .int .i64 E]) ∧ Hid (Below W0.heap.size W0 w') ∧ ((w'.cell? ⟨w.heap.size, 0, none⟩ = some (.int .i64 s) ∧ w'.cell? ⟨w.heap.size, 1, none⟩ = some (.bool a) ∧ w'.cell? ⟨w.heap.size, 2, none⟩ = some (.int .i64 m) ∧ w'.cell? ⟨w.heap.size, 3, none⟩ = some (.int .i64 d)) ∧ w'.cell? ⟨G, 0, none⟩ = some (.int .i64 0))) := hide fun X hX => by
          subst hX
          exact (cS _).mono fun e w' ⟨he, hb'⟩ => ⟨he, hide ((Below.refl W0.heap.size W0).drew.trans hb'), S0.out _ ((Below.refl W0.heap.size W0).drew.trans hb')⟩
        have cB : Hid (∀ X, X = (W0.alloc (.cells #[.int .i64 0, .bool false, .int .i64 0, .int .i64 0] 76)).drew → Calls Tryd.prog 92 #[.agg #[.int .i64 s, .bool a, .int .i64 m, .int .i64 d], .agg #[.int .i64 1, .int .i64 0, .bool false]] X fun e w' => e = .returned (.tuple #[.agg #[.int .i64 s2, .bool a2, .int .i64 m2, .int .i64 d2], .int .i64 E]) ∧ Hid (Below W0.heap.size W0 w') ∧ ((w'.cell? ⟨w.heap.size, 0, none⟩ = some (.int .i64 s) ∧ w'.cell? ⟨w.heap.size, 1, none⟩ = some (.bool a) ∧ w'.cell? ⟨w.heap.size, 2, none⟩ = some (.int .i64 m) ∧ w'.cell? ⟨w.heap.size, 3, none⟩ = some (.int .i64 d)) ∧ w'.cell? ⟨G, 0, none⟩ = some (.int .i64 0)) ∧ (w'.cell? ⟨W0.heap.size, 0, none⟩ = some (.int .i64 0) ∧ w'.cell? ⟨W0.heap.size, 1, none⟩ = some (.bool false) ∧ w'.cell? ⟨W0.heap.size, 2, none⟩ = some (.int .i64 0) ∧ w'.cell? ⟨W0.heap.size, 3, none⟩ = some (.int .i64 0)) ∧ w'.frozen? ⟨W0.heap.size, 0, none⟩ = false ∧ w'.frozen? ⟨W0.heap.size, 1, none⟩ = false ∧ w'.frozen? ⟨W0.heap.size, 2, none⟩ = false ∧ w'.frozen? ⟨W0.heap.size, 3, none⟩ = false) := hide fun X hX => by
          subst hX
          refine (cS _).mono fun e w' ⟨he, hb'⟩ => ?_
          have hx := ((Below.refl W0.heap.size W0).alloc (Nat.le_refl _) (.cells #[.int .i64 0, .bool false, .int .i64 0, .int .i64 0] 76)).drew.trans (hb'.mono (by simp))
          have hz : Blk w' W0.heap.size 76 #[.int .i64 0, .bool false, .int .i64 0, .int .i64 0] := Blk.below (Blk.drew (blk_at W0 rfl)) hb' (by simp)
          exact ⟨he, hide hx, S0.out _ hx, ⟨hz.cell 0, hz.cell 1, hz.cell 2, hz.cell 3⟩, hz.frozen 0, hz.frozen 1, hz.frozen 2, hz.frozen 3⟩
        obtain ⟨⟨c0, c1, c2, c3⟩, x0⟩ := S0.out W0 (Below.refl _ _)
        have n1 : w.heap.size ≠ W0.heap.size := Nat.ne_of_lt kL.lt
        have n2 : G ≠ W0.heap.size := Nat.ne_of_lt kG.lt
        have n3 : W0.heap.size ≠ w.heap.size := n1.symm
        have n4 : W0.heap.size ≠ G := n2.symm
        have hwr : IntKind.i64.wrap ((1 : Int) - 1) = 0 := by decide +kernel
        have hwr2 : ((1 : Int) - 1) = 0 := by decide
        clear hO kL kG hb hE hN cS
        go_wp2_with fail
        go_region_held (fun w' => (w'.cell? ⟨w.heap.size, 0, none⟩ = some (.int .i64 s) ∧ w'.cell? ⟨w.heap.size, 1, none⟩ = some (.bool a) ∧ w'.cell? ⟨w.heap.size, 2, none⟩ = some (.int .i64 m) ∧ w'.cell? ⟨w.heap.size, 3, none⟩ = some (.int .i64 d)) ∧ w'.cell? ⟨G, 0, none⟩ = some (.int .i64 0)) (go_keep)
          (first | (go_at_call 92; (with_reducible refine (cA.out _ rfl).mono ?_); rintro r w5 ⟨rfl, HB5, ⟨j0, j1, j2, j3⟩, y0⟩)
                 | (go_at_call 92; (with_reducible refine (cB.out _ rfl).mono ?_); rintro r w5 ⟨rfl, HB5, ⟨⟨j0, j1, j2, j3⟩, y0⟩, ⟨z0, z1, z2, z3⟩, u0, u1, u2, u3⟩))
        · have hba := HB5.out.alloc HB5.out.size (.cells #[.int .i64 s2, .bool a2, .int .i64 m2, .int .i64 d2] 76)
          clear j0 j1 j2 j3 y0 c0 c1 c2 c3 x0
          generalize w5.alloc (.cells #[.int .i64 s2, .bool a2, .int .i64 m2, .int .i64 d2] 76) = W6 at hba ⊢
          have HBA := Lib.hid hba
          clear n1 n2 n3 n4 hba
          obtain ⟨hO, kL, kG, hb⟩ := HI.out
          have kL2 := kL.below HBA.out kL.lt
          have kG2 := kG.below HBA.out kG.lt
          have hb2 := hb.trans (HBA.out.mono hb.size)
          by_cases hE0 : E = 0
          · obtain ⟨v', w6, hrun, hown, hb5, _⟩ := app_int (own_below hO HBA.out) (show G + 1 ≤ W6.heap.size from kG2.lt) (by omega) 1
            have hF : mayF (s, a, m, d) 1 = true := by rw [HF.out, hE0]; rfl
            have HQ := Lib.hid (And.intro hF (And.intro hown (And.intro (kL2.below hb5 (by omega)) (And.intro (kG2.below hb5 (Nat.lt_succ_self _)) (hb2.trans (hb5.mono (by omega)))))))
            have HRUN := Lib.hid hrun
            subst hE0
            clear hrun hown hb5 hF kL2 kG2 hb2 hO kL kG hb
            go_wp2_with (at_builtin; refine wpList_append_run HRUN.out rfl _ _ rfl rfl rfl rfl ?_)
            go_roundw
            case rel => exact ⟨1, _, rfl, by omega, by omega, hide (by rw [mayL_yes HQ.out.1]; exact HQ.out.2)⟩
            case measure => simp [intOf]
          · have e2 : ((E : Int) == 0) = false := beq_eq_false_iff_ne.2 (by omega)
            have hF : mayF (s, a, m, d) 1 = false := by rw [HF.out]; simpa using hE0
            have HQ := Lib.hid (And.intro hF (And.intro (own_below hO HBA.out) (And.intro kL2 (And.intro kG2 hb2))))
            clear kL2 kG2 hb2 hO kL kG hb hF
            go_wp2_with fail
            go_roundw
            case rel => exact ⟨1, _, rfl, by omega, by omega, hide (by rw [mayL_no HQ.out.1]; exact HQ.out.2)⟩
            case measure => simp [intOf]
        · have hba := (((HB5.out.setCell (p := ⟨W0.heap.size, 0, none⟩) (Nat.le_refl _) (.int .i64 s2)).setCell (p := ⟨W0.heap.size, 1, none⟩) (Nat.le_refl _) (.bool a2)).setCell (p := ⟨W0.heap.size, 2, none⟩) (Nat.le_refl _) (.int .i64 m2)).setCell (p := ⟨W0.heap.size, 3, none⟩) (Nat.le_refl _) (.int .i64 d2)
          clear j0 j1 j2 j3 y0 z0 z1 z2 z3 u0 u1 u2 u3 c0 c1 c2 c3 x0
          generalize (((w5.setCell ⟨W0.heap.size, 0, none⟩ (.int .i64 s2)).setCell ⟨W0.heap.size, 1, none⟩ (.bool a2)).setCell ⟨W0.heap.size, 2, none⟩ (.int .i64 m2)).setCell ⟨W0.heap.size, 3, none⟩ (.int .i64 d2) = W6 at hba ⊢
          have HBA := Lib.hid hba
          clear n1 n2 n3 n4 hba
          obtain ⟨hO, kL, kG, hb⟩ := HI.out
          have kL2 := kL.below HBA.out kL.lt
          have kG2 := kG.below HBA.out kG.lt
          have hb2 := hb.trans (HBA.out.mono hb.size)
          by_cases hE0 : E = 0
          · obtain ⟨v', w6, hrun, hown, hb5, _⟩ := app_int (own_below hO HBA.out) (show G + 1 ≤ W6.heap.size from kG2.lt) (by omega) 1
            have hF : mayF (s, a, m, d) 1 = true := by rw [HF.out, hE0]; rfl
            have HQ := Lib.hid (And.intro hF (And.intro hown (And.intro (kL2.below hb5 (by omega)) (And.intro (kG2.below hb5 (Nat.lt_succ_self _)) (hb2.trans (hb5.mono (by omega)))))))
            have HRUN := Lib.hid hrun
            subst hE0
            clear hrun hown hb5 hF kL2 kG2 hb2 hO kL kG hb
            go_wp2_with (at_builtin; refine wpList_append_run HRUN.out rfl _ _ rfl rfl rfl rfl ?_)
            go_roundw
            case rel => exact ⟨1, _, rfl, by omega, by omega, hide (by rw [mayL_yes HQ.out.1]; exact HQ.out.2)⟩
            case measure => simp [intOf]
          · have e2 : ((E : Int) == 0) = false := beq_eq_false_iff_ne.2 (by omega)
            have hF : mayF (s, a, m, d) 1 = false := by rw [HF.out]; simpa using hE0
            have HQ := Lib.hid (And.intro hF (And.intro (own_below hO HBA.out) (And.intro kL2 (And.intro kG2 hb2))))
            clear kL2 kG2 hb2 hO kL kG hb hF
            go_wp2_with fail
            go_roundw
            case rel => exact ⟨1, _, rfl, by omega, by omega, hide (by rw [mayL_no HQ.out.1]; exact HQ.out.2)⟩
            case measure => simp [intOf]
        · have hba := (((HB5.out.setCell (p := ⟨W0.heap.size, 0, none⟩) (Nat.le_refl _) (.int .i64 s2)).setCell (p := ⟨W0.heap.size, 1, none⟩) (Nat.le_refl _) (.bool a2)).setCell (p := ⟨W0.heap.size, 2, none⟩) (Nat.le_refl _) (.int .i64 m2)).setCell (p := ⟨W0.heap.size, 3, none⟩) (Nat.le_refl _) (.int .i64 d2)
          clear j0 j1 j2 j3 y0 z0 z1 z2 z3 u0 u1 u2 u3 c0 c1 c2 c3 x0
          generalize (((w5.setCell ⟨W0.heap.size, 0, none⟩ (.int .i64 s2)).setCell ⟨W0.heap.size, 1, none⟩ (.bool a2)).setCell ⟨W0.heap.size, 2, none⟩ (.int .i64 m2)).setCell ⟨W0.heap.size, 3, none⟩ (.int .i64 d2) = W6 at hba ⊢
          have HBA := Lib.hid hba
          clear n1 n2 n3 n4 hba
          obtain ⟨hO, kL, kG, hb⟩ := HI.out
          have kL2 := kL.below HBA.out kL.lt
          have kG2 := kG.below HBA.out kG.lt
          have hb2 := hb.trans (HBA.out.mono hb.size)
          by_cases hE0 : E = 0
          · obtain ⟨v', w6, hrun, hown, hb5, _⟩ := app_int (own_below hO HBA.out) (show G + 1 ≤ W6.heap.size from kG2.lt) (by omega) 1
            have hF : mayF (s, a, m, d) 1 = true := by rw [HF.out, hE0]; rfl
            have HQ := Lib.hid (And.intro hF (And.intro hown (And.intro (kL2.below hb5 (by omega)) (And.intro (kG2.below hb5 (Nat.lt_succ_self _)) (hb2.trans (hb5.mono (by omega)))))))
            have HRUN := Lib.hid hrun
            subst hE0
            clear hrun hown hb5 hF kL2 kG2 hb2 hO kL kG hb
            go_wp2_with (at_builtin; refine wpList_append_run HRUN.out rfl _ _ rfl rfl rfl rfl ?_)
            go_roundw
            case rel => exact ⟨1, _, rfl, by omega, by omega, hide (by rw [mayL_yes HQ.out.1]; exact HQ.out.2)⟩
            case measure => simp [intOf]
          · have e2 : ((E : Int) == 0) = false := beq_eq_false_iff_ne.2 (by omega)
            have hF : mayF (s, a, m, d) 1 = false := by rw [HF.out]; simpa using hE0
            have HQ := Lib.hid (And.intro hF (And.intro (own_below hO HBA.out) (And.intro kL2 (And.intro kG2 hb2))))
            clear kL2 kG2 hb2 hO kL kG hb hF
            go_wp2_with fail
            go_roundw
            case rel => exact ⟨1, _, rfl, by omega, by omega, hide (by rw [mayL_no HQ.out.1]; exact HQ.out.2)⟩
            case measure => simp [intOf]
      · obtain rfl : iv = 2 := by omega
        clear hiv hj
        obtain ⟨hO, kL, kG, hb⟩ := HO.out
        have cS := fun w => CS.out 2 400 false w
        obtain ⟨E, hE⟩ : ∃ E, stepE s a m d 2 400 false = E := ⟨_, rfl⟩
        obtain ⟨N, hN⟩ : ∃ N, stepL s a m d 2 400 false = N := ⟨_, rfl⟩
        rw [hE, hN] at cS
        obtain ⟨s2, a2, m2, d2⟩ := N
        unfold lkV linkV evV at cS
        simp only at cS
        have hlen := mayL_len (s, a, m, d) 1
        have HF := Lib.hid (show mayF (s, a, m, d) 2 = (E == 0) by rw [← hE]; exact congrArg (· == 0) (show stE (s, a, m, d) _ = stE (s, a, m, d) (2, 400, false) by first | rfl | exact fit23 _))
        have HI := Lib.hid (And.intro hO (And.intro kL (And.intro kG hb)))
        have S0 : Hid (∀ w', Below W0.heap.size W0 w' → (w'.cell? ⟨w.heap.size, 0, none⟩ = some (.int .i64 s) ∧ w'.cell? ⟨w.heap.size, 1, none⟩ = some (.bool a) ∧ w'.cell? ⟨w.heap.size, 2, none⟩ = some (.int .i64 m) ∧ w'.cell? ⟨w.heap.size, 3, none⟩ = some (.int .i64 d)) ∧ w'.cell? ⟨G, 1, none⟩ = some (.int .i64 400)) := hide fun w' hw => by
          have h1 := kL.below hw kL.lt
          have h2 := kG.below hw kG.lt
          exact ⟨⟨h1.cell 0, h1.cell 1, h1.cell 2, h1.cell 3⟩, h2.cell 1⟩
        have cA : Hid (∀ X, X = W0.drew → Calls Tryd.prog 92 #[.agg #[.int .i64 s, .bool a, .int .i64 m, .int .i64 d], .agg #[.int .i64 2, .int .i64 400, .bool false]] X fun e w' => e = .returned (.tuple #[.agg #[.int .i64 s2, .bool a2, .int .i64 m2, .int .i64 d2], .int .i64 E]) ∧ Hid (Below W0.heap.size W0 w') ∧ ((w'.cell? ⟨w.heap.size, 0, none⟩ = some (.int .i64 s) ∧ w'.cell? ⟨w.heap.size, 1, none⟩ = some (.bool a) ∧ w'.cell? ⟨w.heap.size, 2, none⟩ = some (.int .i64 m) ∧ w'.cell? ⟨w.heap.size, 3, none⟩ = some (.int .i64 d)) ∧ w'.cell? ⟨G, 1, none⟩ = some (.int .i64 400))) := hide fun X hX => by
          subst hX
          exact (cS _).mono fun e w' ⟨he, hb'⟩ => ⟨he, hide ((Below.refl W0.heap.size W0).drew.trans hb'), S0.out _ ((Below.refl W0.heap.size W0).drew.trans hb')⟩
        have cB : Hid (∀ X, X = (W0.alloc (.cells #[.int .i64 0, .bool false, .int .i64 0, .int .i64 0] 76)).drew → Calls Tryd.prog 92 #[.agg #[.int .i64 s, .bool a, .int .i64 m, .int .i64 d], .agg #[.int .i64 2, .int .i64 400, .bool false]] X fun e w' => e = .returned (.tuple #[.agg #[.int .i64 s2, .bool a2, .int .i64 m2, .int .i64 d2], .int .i64 E]) ∧ Hid (Below W0.heap.size W0 w') ∧ ((w'.cell? ⟨w.heap.size, 0, none⟩ = some (.int .i64 s) ∧ w'.cell? ⟨w.heap.size, 1, none⟩ = some (.bool a) ∧ w'.cell? ⟨w.heap.size, 2, none⟩ = some (.int .i64 m) ∧ w'.cell? ⟨w.heap.size, 3, none⟩ = some (.int .i64 d)) ∧ w'.cell? ⟨G, 1, none⟩ = some (.int .i64 400)) ∧ (w'.cell? ⟨W0.heap.size, 0, none⟩ = some (.int .i64 0) ∧ w'.cell? ⟨W0.heap.size, 1, none⟩ = some (.bool false) ∧ w'.cell? ⟨W0.heap.size, 2, none⟩ = some (.int .i64 0) ∧ w'.cell? ⟨W0.heap.size, 3, none⟩ = some (.int .i64 0)) ∧ w'.frozen? ⟨W0.heap.size, 0, none⟩ = false ∧ w'.frozen? ⟨W0.heap.size, 1, none⟩ = false ∧ w'.frozen? ⟨W0.heap.size, 2, none⟩ = false ∧ w'.frozen? ⟨W0.heap.size, 3, none⟩ = false) := hide fun X hX => by
          subst hX
          refine (cS _).mono fun e w' ⟨he, hb'⟩ => ?_
          have hx := ((Below.refl W0.heap.size W0).alloc (Nat.le_refl _) (.cells #[.int .i64 0, .bool false, .int .i64 0, .int .i64 0] 76)).drew.trans (hb'.mono (by simp))
          have hz : Blk w' W0.heap.size 76 #[.int .i64 0, .bool false, .int .i64 0, .int .i64 0] := Blk.below (Blk.drew (blk_at W0 rfl)) hb' (by simp)
          exact ⟨he, hide hx, S0.out _ hx, ⟨hz.cell 0, hz.cell 1, hz.cell 2, hz.cell 3⟩, hz.frozen 0, hz.frozen 1, hz.frozen 2, hz.frozen 3⟩
        obtain ⟨⟨c0, c1, c2, c3⟩, x0⟩ := S0.out W0 (Below.refl _ _)
        have n1 : w.heap.size ≠ W0.heap.size := Nat.ne_of_lt kL.lt
        have n2 : G ≠ W0.heap.size := Nat.ne_of_lt kG.lt
        have n3 : W0.heap.size ≠ w.heap.size := n1.symm
        have n4 : W0.heap.size ≠ G := n2.symm
        have hwr : IntKind.i64.wrap ((2 : Int) - 1) = 1 := by decide +kernel
        have hwr2 : ((2 : Int) - 1) = 1 := by decide
        clear hO kL kG hb hE hN cS
        go_wp2_with fail
        go_region_held (fun w' => (w'.cell? ⟨w.heap.size, 0, none⟩ = some (.int .i64 s) ∧ w'.cell? ⟨w.heap.size, 1, none⟩ = some (.bool a) ∧ w'.cell? ⟨w.heap.size, 2, none⟩ = some (.int .i64 m) ∧ w'.cell? ⟨w.heap.size, 3, none⟩ = some (.int .i64 d)) ∧ w'.cell? ⟨G, 1, none⟩ = some (.int .i64 400)) (go_keep)
          (first | (go_at_call 92; (with_reducible refine (cA.out _ rfl).mono ?_); rintro r w5 ⟨rfl, HB5, ⟨j0, j1, j2, j3⟩, y0⟩)
                 | (go_at_call 92; (with_reducible refine (cB.out _ rfl).mono ?_); rintro r w5 ⟨rfl, HB5, ⟨⟨j0, j1, j2, j3⟩, y0⟩, ⟨z0, z1, z2, z3⟩, u0, u1, u2, u3⟩))
        · have hba := HB5.out.alloc HB5.out.size (.cells #[.int .i64 s2, .bool a2, .int .i64 m2, .int .i64 d2] 76)
          clear j0 j1 j2 j3 y0 c0 c1 c2 c3 x0
          generalize w5.alloc (.cells #[.int .i64 s2, .bool a2, .int .i64 m2, .int .i64 d2] 76) = W6 at hba ⊢
          have HBA := Lib.hid hba
          clear n1 n2 n3 n4 hba
          obtain ⟨hO, kL, kG, hb⟩ := HI.out
          have kL2 := kL.below HBA.out kL.lt
          have kG2 := kG.below HBA.out kG.lt
          have hb2 := hb.trans (HBA.out.mono hb.size)
          by_cases hE0 : E = 0
          · obtain ⟨v', w6, hrun, hown, hb5, _⟩ := app_int (own_below hO HBA.out) (show G + 1 ≤ W6.heap.size from kG2.lt) (by omega) 2
            have hF : mayF (s, a, m, d) 2 = true := by rw [HF.out, hE0]; rfl
            have HQ := Lib.hid (And.intro hF (And.intro hown (And.intro (kL2.below hb5 (by omega)) (And.intro (kG2.below hb5 (Nat.lt_succ_self _)) (hb2.trans (hb5.mono (by omega)))))))
            have HRUN := Lib.hid hrun
            subst hE0
            clear hrun hown hb5 hF kL2 kG2 hb2 hO kL kG hb
            go_wp2_with (at_builtin; refine wpList_append_run HRUN.out rfl _ _ rfl rfl rfl rfl ?_)
            go_roundw
            case rel => exact ⟨2, _, rfl, by omega, by omega, hide (by rw [mayL_yes HQ.out.1]; exact HQ.out.2)⟩
            case measure => simp [intOf]
          · have e2 : ((E : Int) == 0) = false := beq_eq_false_iff_ne.2 (by omega)
            have hF : mayF (s, a, m, d) 2 = false := by rw [HF.out]; simpa using hE0
            have HQ := Lib.hid (And.intro hF (And.intro (own_below hO HBA.out) (And.intro kL2 (And.intro kG2 hb2))))
            clear kL2 kG2 hb2 hO kL kG hb hF
            go_wp2_with fail
            go_roundw
            case rel => exact ⟨2, _, rfl, by omega, by omega, hide (by rw [mayL_no HQ.out.1]; exact HQ.out.2)⟩
            case measure => simp [intOf]
        · have hba := (((HB5.out.setCell (p := ⟨W0.heap.size, 0, none⟩) (Nat.le_refl _) (.int .i64 s2)).setCell (p := ⟨W0.heap.size, 1, none⟩) (Nat.le_refl _) (.bool a2)).setCell (p := ⟨W0.heap.size, 2, none⟩) (Nat.le_refl _) (.int .i64 m2)).setCell (p := ⟨W0.heap.size, 3, none⟩) (Nat.le_refl _) (.int .i64 d2)
          clear j0 j1 j2 j3 y0 z0 z1 z2 z3 u0 u1 u2 u3 c0 c1 c2 c3 x0
          generalize (((w5.setCell ⟨W0.heap.size, 0, none⟩ (.int .i64 s2)).setCell ⟨W0.heap.size, 1, none⟩ (.bool a2)).setCell ⟨W0.heap.size, 2, none⟩ (.int .i64 m2)).setCell ⟨W0.heap.size, 3, none⟩ (.int .i64 d2) = W6 at hba ⊢
          have HBA := Lib.hid hba
          clear n1 n2 n3 n4 hba
          obtain ⟨hO, kL, kG, hb⟩ := HI.out
          have kL2 := kL.below HBA.out kL.lt
          have kG2 := kG.below HBA.out kG.lt
          have hb2 := hb.trans (HBA.out.mono hb.size)
          by_cases hE0 : E = 0
          · obtain ⟨v', w6, hrun, hown, hb5, _⟩ := app_int (own_below hO HBA.out) (show G + 1 ≤ W6.heap.size from kG2.lt) (by omega) 2
            have hF : mayF (s, a, m, d) 2 = true := by rw [HF.out, hE0]; rfl
            have HQ := Lib.hid (And.intro hF (And.intro hown (And.intro (kL2.below hb5 (by omega)) (And.intro (kG2.below hb5 (Nat.lt_succ_self _)) (hb2.trans (hb5.mono (by omega)))))))
            have HRUN := Lib.hid hrun
            subst hE0
            clear hrun hown hb5 hF kL2 kG2 hb2 hO kL kG hb
            go_wp2_with (at_builtin; refine wpList_append_run HRUN.out rfl _ _ rfl rfl rfl rfl ?_)
            go_roundw
            case rel => exact ⟨2, _, rfl, by omega, by omega, hide (by rw [mayL_yes HQ.out.1]; exact HQ.out.2)⟩
            case measure => simp [intOf]
          · have e2 : ((E : Int) == 0) = false := beq_eq_false_iff_ne.2 (by omega)
            have hF : mayF (s, a, m, d) 2 = false := by rw [HF.out]; simpa using hE0
            have HQ := Lib.hid (And.intro hF (And.intro (own_below hO HBA.out) (And.intro kL2 (And.intro kG2 hb2))))
            clear kL2 kG2 hb2 hO kL kG hb hF
            go_wp2_with fail
            go_roundw
            case rel => exact ⟨2, _, rfl, by omega, by omega, hide (by rw [mayL_no HQ.out.1]; exact HQ.out.2)⟩
            case measure => simp [intOf]
        · have hba := (((HB5.out.setCell (p := ⟨W0.heap.size, 0, none⟩) (Nat.le_refl _) (.int .i64 s2)).setCell (p := ⟨W0.heap.size, 1, none⟩) (Nat.le_refl _) (.bool a2)).setCell (p := ⟨W0.heap.size, 2, none⟩) (Nat.le_refl _) (.int .i64 m2)).setCell (p := ⟨W0.heap.size, 3, none⟩) (Nat.le_refl _) (.int .i64 d2)
          clear j0 j1 j2 j3 y0 z0 z1 z2 z3 u0 u1 u2 u3 c0 c1 c2 c3 x0
          generalize (((w5.setCell ⟨W0.heap.size, 0, none⟩ (.int .i64 s2)).setCell ⟨W0.heap.size, 1, none⟩ (.bool a2)).setCell ⟨W0.heap.size, 2, none⟩ (.int .i64 m2)).setCell ⟨W0.heap.size, 3, none⟩ (.int .i64 d2) = W6 at hba ⊢
          have HBA := Lib.hid hba
          clear n1 n2 n3 n4 hba
          obtain ⟨hO, kL, kG, hb⟩ := HI.out
          have kL2 := kL.below HBA.out kL.lt
          have kG2 := kG.below HBA.out kG.lt
          have hb2 := hb.trans (HBA.out.mono hb.size)
          by_cases hE0 : E = 0
          · obtain ⟨v', w6, hrun, hown, hb5, _⟩ := app_int (own_below hO HBA.out) (show G + 1 ≤ W6.heap.size from kG2.lt) (by omega) 2
            have hF : mayF (s, a, m, d) 2 = true := by rw [HF.out, hE0]; rfl
            have HQ := Lib.hid (And.intro hF (And.intro hown (And.intro (kL2.below hb5 (by omega)) (And.intro (kG2.below hb5 (Nat.lt_succ_self _)) (hb2.trans (hb5.mono (by omega)))))))
            have HRUN := Lib.hid hrun
            subst hE0
            clear hrun hown hb5 hF kL2 kG2 hb2 hO kL kG hb
            go_wp2_with (at_builtin; refine wpList_append_run HRUN.out rfl _ _ rfl rfl rfl rfl ?_)
            go_roundw
            case rel => exact ⟨2, _, rfl, by omega, by omega, hide (by rw [mayL_yes HQ.out.1]; exact HQ.out.2)⟩
            case measure => simp [intOf]
          · have e2 : ((E : Int) == 0) = false := beq_eq_false_iff_ne.2 (by omega)
            have hF : mayF (s, a, m, d) 2 = false := by rw [HF.out]; simpa using hE0
            have HQ := Lib.hid (And.intro hF (And.intro (own_below hO HBA.out) (And.intro kL2 (And.intro kG2 hb2))))
            clear kL2 kG2 hb2 hO kL kG hb hF
            go_wp2_with fail
            go_roundw
            case rel => exact ⟨2, _, rfl, by omega, by omega, hide (by rw [mayL_no HQ.out.1]; exact HQ.out.2)⟩
            case measure => simp [intOf]
      · obtain rfl : iv = 3 := by omega
        clear hiv hj
        obtain ⟨hO, kL, kG, hb⟩ := HO.out
        have cS := fun w => CS.out 3 200 false w
        obtain ⟨E, hE⟩ : ∃ E, stepE s a m d 3 200 false = E := ⟨_, rfl⟩
        obtain ⟨N, hN⟩ : ∃ N, stepL s a m d 3 200 false = N := ⟨_, rfl⟩
        rw [hE, hN] at cS
        obtain ⟨s2, a2, m2, d2⟩ := N
        unfold lkV linkV evV at cS
        simp only at cS
        have hlen := mayL_len (s, a, m, d) 2
        have HF := Lib.hid (show mayF (s, a, m, d) 3 = (E == 0) by rw [← hE]; exact congrArg (· == 0) (show stE (s, a, m, d) _ = stE (s, a, m, d) (3, 200, false) by first | rfl | exact fit23 _))
        have HI := Lib.hid (And.intro hO (And.intro kL (And.intro kG hb)))
        have S0 : Hid (∀ w', Below W0.heap.size W0 w' → (w'.cell? ⟨w.heap.size, 0, none⟩ = some (.int .i64 s) ∧ w'.cell? ⟨w.heap.size, 1, none⟩ = some (.bool a) ∧ w'.cell? ⟨w.heap.size, 2, none⟩ = some (.int .i64 m) ∧ w'.cell? ⟨w.heap.size, 3, none⟩ = some (.int .i64 d)) ∧ w'.cell? ⟨G, 2, none⟩ = some (.int .i64 200)) := hide fun w' hw => by
          have h1 := kL.below hw kL.lt
          have h2 := kG.below hw kG.lt
          exact ⟨⟨h1.cell 0, h1.cell 1, h1.cell 2, h1.cell 3⟩, h2.cell 2⟩
        have cA : Hid (∀ X, X = W0.drew → Calls Tryd.prog 92 #[.agg #[.int .i64 s, .bool a, .int .i64 m, .int .i64 d], .agg #[.int .i64 3, .int .i64 200, .bool false]] X fun e w' => e = .returned (.tuple #[.agg #[.int .i64 s2, .bool a2, .int .i64 m2, .int .i64 d2], .int .i64 E]) ∧ Hid (Below W0.heap.size W0 w') ∧ ((w'.cell? ⟨w.heap.size, 0, none⟩ = some (.int .i64 s) ∧ w'.cell? ⟨w.heap.size, 1, none⟩ = some (.bool a) ∧ w'.cell? ⟨w.heap.size, 2, none⟩ = some (.int .i64 m) ∧ w'.cell? ⟨w.heap.size, 3, none⟩ = some (.int .i64 d)) ∧ w'.cell? ⟨G, 2, none⟩ = some (.int .i64 200))) := hide fun X hX => by
          subst hX
          exact (cS _).mono fun e w' ⟨he, hb'⟩ => ⟨he, hide ((Below.refl W0.heap.size W0).drew.trans hb'), S0.out _ ((Below.refl W0.heap.size W0).drew.trans hb')⟩
        have cB : Hid (∀ X, X = (W0.alloc (.cells #[.int .i64 0, .bool false, .int .i64 0, .int .i64 0] 76)).drew → Calls Tryd.prog 92 #[.agg #[.int .i64 s, .bool a, .int .i64 m, .int .i64 d], .agg #[.int .i64 3, .int .i64 200, .bool false]] X fun e w' => e = .returned (.tuple #[.agg #[.int .i64 s2, .bool a2, .int .i64 m2, .int .i64 d2], .int .i64 E]) ∧ Hid (Below W0.heap.size W0 w') ∧ ((w'.cell? ⟨w.heap.size, 0, none⟩ = some (.int .i64 s) ∧ w'.cell? ⟨w.heap.size, 1, none⟩ = some (.bool a) ∧ w'.cell? ⟨w.heap.size, 2, none⟩ = some (.int .i64 m) ∧ w'.cell? ⟨w.heap.size, 3, none⟩ = some (.int .i64 d)) ∧ w'.cell? ⟨G, 2, none⟩ = some (.int .i64 200)) ∧ (w'.cell? ⟨W0.heap.size, 0, none⟩ = some (.int .i64 0) ∧ w'.cell? ⟨W0.heap.size, 1, none⟩ = some (.bool false) ∧ w'.cell? ⟨W0.heap.size, 2, none⟩ = some (.int .i64 0) ∧ w'.cell? ⟨W0.heap.size, 3, none⟩ = some (.int .i64 0)) ∧ w'.frozen? ⟨W0.heap.size, 0, none⟩ = false ∧ w'.frozen? ⟨W0.heap.size, 1, none⟩ = false ∧ w'.frozen? ⟨W0.heap.size, 2, none⟩ = false ∧ w'.frozen? ⟨W0.heap.size, 3, none⟩ = false) := hide fun X hX => by
          subst hX
          refine (cS _).mono fun e w' ⟨he, hb'⟩ => ?_
          have hx := ((Below.refl W0.heap.size W0).alloc (Nat.le_refl _) (.cells #[.int .i64 0, .bool false, .int .i64 0, .int .i64 0] 76)).drew.trans (hb'.mono (by simp))
          have hz : Blk w' W0.heap.size 76 #[.int .i64 0, .bool false, .int .i64 0, .int .i64 0] := Blk.below (Blk.drew (blk_at W0 rfl)) hb' (by simp)
          exact ⟨he, hide hx, S0.out _ hx, ⟨hz.cell 0, hz.cell 1, hz.cell 2, hz.cell 3⟩, hz.frozen 0, hz.frozen 1, hz.frozen 2, hz.frozen 3⟩
        obtain ⟨⟨c0, c1, c2, c3⟩, x0⟩ := S0.out W0 (Below.refl _ _)
        have n1 : w.heap.size ≠ W0.heap.size := Nat.ne_of_lt kL.lt
        have n2 : G ≠ W0.heap.size := Nat.ne_of_lt kG.lt
        have n3 : W0.heap.size ≠ w.heap.size := n1.symm
        have n4 : W0.heap.size ≠ G := n2.symm
        have hwr : IntKind.i64.wrap ((3 : Int) - 1) = 2 := by decide +kernel
        have hwr2 : ((3 : Int) - 1) = 2 := by decide
        clear hO kL kG hb hE hN cS
        go_wp2_with fail
        go_region_held (fun w' => (w'.cell? ⟨w.heap.size, 0, none⟩ = some (.int .i64 s) ∧ w'.cell? ⟨w.heap.size, 1, none⟩ = some (.bool a) ∧ w'.cell? ⟨w.heap.size, 2, none⟩ = some (.int .i64 m) ∧ w'.cell? ⟨w.heap.size, 3, none⟩ = some (.int .i64 d)) ∧ w'.cell? ⟨G, 2, none⟩ = some (.int .i64 200)) (go_keep)
          (first | (go_at_call 92; (with_reducible refine (cA.out _ rfl).mono ?_); rintro r w5 ⟨rfl, HB5, ⟨j0, j1, j2, j3⟩, y0⟩)
                 | (go_at_call 92; (with_reducible refine (cB.out _ rfl).mono ?_); rintro r w5 ⟨rfl, HB5, ⟨⟨j0, j1, j2, j3⟩, y0⟩, ⟨z0, z1, z2, z3⟩, u0, u1, u2, u3⟩))
        · have hba := HB5.out.alloc HB5.out.size (.cells #[.int .i64 s2, .bool a2, .int .i64 m2, .int .i64 d2] 76)
          clear j0 j1 j2 j3 y0 c0 c1 c2 c3 x0
          generalize w5.alloc (.cells #[.int .i64 s2, .bool a2, .int .i64 m2, .int .i64 d2] 76) = W6 at hba ⊢
          have HBA := Lib.hid hba
          clear n1 n2 n3 n4 hba
          obtain ⟨hO, kL, kG, hb⟩ := HI.out
          have kL2 := kL.below HBA.out kL.lt
          have kG2 := kG.below HBA.out kG.lt
          have hb2 := hb.trans (HBA.out.mono hb.size)
          by_cases hE0 : E = 0
          · obtain ⟨v', w6, hrun, hown, hb5, _⟩ := app_int (own_below hO HBA.out) (show G + 1 ≤ W6.heap.size from kG2.lt) (by omega) 3
            have hF : mayF (s, a, m, d) 3 = true := by rw [HF.out, hE0]; rfl
            have HQ := Lib.hid (And.intro hF (And.intro hown (And.intro (kL2.below hb5 (by omega)) (And.intro (kG2.below hb5 (Nat.lt_succ_self _)) (hb2.trans (hb5.mono (by omega)))))))
            have HRUN := Lib.hid hrun
            subst hE0
            clear hrun hown hb5 hF kL2 kG2 hb2 hO kL kG hb
            go_wp2_with (at_builtin; refine wpList_append_run HRUN.out rfl _ _ rfl rfl rfl rfl ?_)
            go_roundw
            case rel => exact ⟨3, _, rfl, by omega, by omega, hide (by rw [mayL_yes HQ.out.1]; exact HQ.out.2)⟩
            case measure => simp [intOf]
          · have e2 : ((E : Int) == 0) = false := beq_eq_false_iff_ne.2 (by omega)
            have hF : mayF (s, a, m, d) 3 = false := by rw [HF.out]; simpa using hE0
            have HQ := Lib.hid (And.intro hF (And.intro (own_below hO HBA.out) (And.intro kL2 (And.intro kG2 hb2))))
            clear kL2 kG2 hb2 hO kL kG hb hF
            go_wp2_with fail
            go_roundw
            case rel => exact ⟨3, _, rfl, by omega, by omega, hide (by rw [mayL_no HQ.out.1]; exact HQ.out.2)⟩
            case measure => simp [intOf]
        · have hba := (((HB5.out.setCell (p := ⟨W0.heap.size, 0, none⟩) (Nat.le_refl _) (.int .i64 s2)).setCell (p := ⟨W0.heap.size, 1, none⟩) (Nat.le_refl _) (.bool a2)).setCell (p := ⟨W0.heap.size, 2, none⟩) (Nat.le_refl _) (.int .i64 m2)).setCell (p := ⟨W0.heap.size, 3, none⟩) (Nat.le_refl _) (.int .i64 d2)
          clear j0 j1 j2 j3 y0 z0 z1 z2 z3 u0 u1 u2 u3 c0 c1 c2 c3 x0
          generalize (((w5.setCell ⟨W0.heap.size, 0, none⟩ (.int .i64 s2)).setCell ⟨W0.heap.size, 1, none⟩ (.bool a2)).setCell ⟨W0.heap.size, 2, none⟩ (.int .i64 m2)).setCell ⟨W0.heap.size, 3, none⟩ (.int .i64 d2) = W6 at hba ⊢
          have HBA := Lib.hid hba
          clear n1 n2 n3 n4 hba
          obtain ⟨hO, kL, kG, hb⟩ := HI.out
          have kL2 := kL.below HBA.out kL.lt
          have kG2 := kG.below HBA.out kG.lt
          have hb2 := hb.trans (HBA.out.mono hb.size)
          by_cases hE0 : E = 0
          · obtain ⟨v', w6, hrun, hown, hb5, _⟩ := app_int (own_below hO HBA.out) (show G + 1 ≤ W6.heap.size from kG2.lt) (by omega) 3
            have hF : mayF (s, a, m, d) 3 = true := by rw [HF.out, hE0]; rfl
            have HQ := Lib.hid (And.intro hF (And.intro hown (And.intro (kL2.below hb5 (by omega)) (And.intro (kG2.below hb5 (Nat.lt_succ_self _)) (hb2.trans (hb5.mono (by omega)))))))
            have HRUN := Lib.hid hrun
            subst hE0
            clear hrun hown hb5 hF kL2 kG2 hb2 hO kL kG hb
            go_wp2_with (at_builtin; refine wpList_append_run HRUN.out rfl _ _ rfl rfl rfl rfl ?_)
            go_roundw
            case rel => exact ⟨3, _, rfl, by omega, by omega, hide (by rw [mayL_yes HQ.out.1]; exact HQ.out.2)⟩
            case measure => simp [intOf]
          · have e2 : ((E : Int) == 0) = false := beq_eq_false_iff_ne.2 (by omega)
            have hF : mayF (s, a, m, d) 3 = false := by rw [HF.out]; simpa using hE0
            have HQ := Lib.hid (And.intro hF (And.intro (own_below hO HBA.out) (And.intro kL2 (And.intro kG2 hb2))))
            clear kL2 kG2 hb2 hO kL kG hb hF
            go_wp2_with fail
            go_roundw
            case rel => exact ⟨3, _, rfl, by omega, by omega, hide (by rw [mayL_no HQ.out.1]; exact HQ.out.2)⟩
            case measure => simp [intOf]
        · have hba := (((HB5.out.setCell (p := ⟨W0.heap.size, 0, none⟩) (Nat.le_refl _) (.int .i64 s2)).setCell (p := ⟨W0.heap.size, 1, none⟩) (Nat.le_refl _) (.bool a2)).setCell (p := ⟨W0.heap.size, 2, none⟩) (Nat.le_refl _) (.int .i64 m2)).setCell (p := ⟨W0.heap.size, 3, none⟩) (Nat.le_refl _) (.int .i64 d2)
          clear j0 j1 j2 j3 y0 z0 z1 z2 z3 u0 u1 u2 u3 c0 c1 c2 c3 x0
          generalize (((w5.setCell ⟨W0.heap.size, 0, none⟩ (.int .i64 s2)).setCell ⟨W0.heap.size, 1, none⟩ (.bool a2)).setCell ⟨W0.heap.size, 2, none⟩ (.int .i64 m2)).setCell ⟨W0.heap.size, 3, none⟩ (.int .i64 d2) = W6 at hba ⊢
          have HBA := Lib.hid hba
          clear n1 n2 n3 n4 hba
          obtain ⟨hO, kL, kG, hb⟩ := HI.out
          have kL2 := kL.below HBA.out kL.lt
          have kG2 := kG.below HBA.out kG.lt
          have hb2 := hb.trans (HBA.out.mono hb.size)
          by_cases hE0 : E = 0
          · obtain ⟨v', w6, hrun, hown, hb5, _⟩ := app_int (own_below hO HBA.out) (show G + 1 ≤ W6.heap.size from kG2.lt) (by omega) 3
            have hF : mayF (s, a, m, d) 3 = true := by rw [HF.out, hE0]; rfl
            have HQ := Lib.hid (And.intro hF (And.intro hown (And.intro (kL2.below hb5 (by omega)) (And.intro (kG2.below hb5 (Nat.lt_succ_self _)) (hb2.trans (hb5.mono (by omega)))))))
            have HRUN := Lib.hid hrun
            subst hE0
            clear hrun hown hb5 hF kL2 kG2 hb2 hO kL kG hb
            go_wp2_with (at_builtin; refine wpList_append_run HRUN.out rfl _ _ rfl rfl rfl rfl ?_)
            go_roundw
            case rel => exact ⟨3, _, rfl, by omega, by omega, hide (by rw [mayL_yes HQ.out.1]; exact HQ.out.2)⟩
            case measure => simp [intOf]
          · have e2 : ((E : Int) == 0) = false := beq_eq_false_iff_ne.2 (by omega)
            have hF : mayF (s, a, m, d) 3 = false := by rw [HF.out]; simpa using hE0
            have HQ := Lib.hid (And.intro hF (And.intro (own_below hO HBA.out) (And.intro kL2 (And.intro kG2 hb2))))
            clear kL2 kG2 hb2 hO kL kG hb hF
            go_wp2_with fail
            go_roundw
            case rel => exact ⟨3, _, rfl, by omega, by omega, hide (by rw [mayL_no HQ.out.1]; exact HQ.out.2)⟩
            case measure => simp [intOf]
      · obtain rfl : iv = 4 := by omega
        clear hiv hj
        obtain ⟨hO, kL, kG, hb⟩ := HO.out
        have cS := fun w => CS.out 4 0 false w
        obtain ⟨E, hE⟩ : ∃ E, stepE s a m d 4 0 false = E := ⟨_, rfl⟩
        obtain ⟨N, hN⟩ : ∃ N, stepL s a m d 4 0 false = N := ⟨_, rfl⟩
        rw [hE, hN] at cS
        obtain ⟨s2, a2, m2, d2⟩ := N
        unfold lkV linkV evV at cS
        simp only at cS
        have hlen := mayL_len (s, a, m, d) 3
        have HF := Lib.hid (show mayF (s, a, m, d) 4 = (E == 0) by rw [← hE]; exact congrArg (· == 0) (show stE (s, a, m, d) _ = stE (s, a, m, d) (4, 0, false) by first | rfl | exact fit23 _))
        have HI := Lib.hid (And.intro hO (And.intro kL (And.intro kG hb)))
        have S0 : Hid (∀ w', Below W0.heap.size W0 w' → (w'.cell? ⟨w.heap.size, 0, none⟩ = some (.int .i64 s) ∧ w'.cell? ⟨w.heap.size, 1, none⟩ = some (.bool a) ∧ w'.cell? ⟨w.heap.size, 2, none⟩ = some (.int .i64 m) ∧ w'.cell? ⟨w.heap.size, 3, none⟩ = some (.int .i64 d)) ∧ w'.cell? ⟨G, 3, none⟩ = some (.int .i64 0)) := hide fun w' hw => by
          have h1 := kL.below hw kL.lt
          have h2 := kG.below hw kG.lt
          exact ⟨⟨h1.cell 0, h1.cell 1, h1.cell 2, h1.cell 3⟩, h2.cell 3⟩
        have cA : Hid (∀ X, X = W0.drew → Calls Tryd.prog 92 #[.agg #[.int .i64 s, .bool a, .int .i64 m, .int .i64 d], .agg #[.int .i64 4, .int .i64 0, .bool false]] X fun e w' => e = .returned (.tuple #[.agg #[.int .i64 s2, .bool a2, .int .i64 m2, .int .i64 d2], .int .i64 E]) ∧ Hid (Below W0.heap.size W0 w') ∧ ((w'.cell? ⟨w.heap.size, 0, none⟩ = some (.int .i64 s) ∧ w'.cell? ⟨w.heap.size, 1, none⟩ = some (.bool a) ∧ w'.cell? ⟨w.heap.size, 2, none⟩ = some (.int .i64 m) ∧ w'.cell? ⟨w.heap.size, 3, none⟩ = some (.int .i64 d)) ∧ w'.cell? ⟨G, 3, none⟩ = some (.int .i64 0))) := hide fun X hX => by
          subst hX
          exact (cS _).mono fun e w' ⟨he, hb'⟩ => ⟨he, hide ((Below.refl W0.heap.size W0).drew.trans hb'), S0.out _ ((Below.refl W0.heap.size W0).drew.trans hb')⟩
        have cB : Hid (∀ X, X = (W0.alloc (.cells #[.int .i64 0, .bool false, .int .i64 0, .int .i64 0] 76)).drew → Calls Tryd.prog 92 #[.agg #[.int .i64 s, .bool a, .int .i64 m, .int .i64 d], .agg #[.int .i64 4, .int .i64 0, .bool false]] X fun e w' => e = .returned (.tuple #[.agg #[.int .i64 s2, .bool a2, .int .i64 m2, .int .i64 d2], .int .i64 E]) ∧ Hid (Below W0.heap.size W0 w') ∧ ((w'.cell? ⟨w.heap.size, 0, none⟩ = some (.int .i64 s) ∧ w'.cell? ⟨w.heap.size, 1, none⟩ = some (.bool a) ∧ w'.cell? ⟨w.heap.size, 2, none⟩ = some (.int .i64 m) ∧ w'.cell? ⟨w.heap.size, 3, none⟩ = some (.int .i64 d)) ∧ w'.cell? ⟨G, 3, none⟩ = some (.int .i64 0)) ∧ (w'.cell? ⟨W0.heap.size, 0, none⟩ = some (.int .i64 0) ∧ w'.cell? ⟨W0.heap.size, 1, none⟩ = some (.bool false) ∧ w'.cell? ⟨W0.heap.size, 2, none⟩ = some (.int .i64 0) ∧ w'.cell? ⟨W0.heap.size, 3, none⟩ = some (.int .i64 0)) ∧ w'.frozen? ⟨W0.heap.size, 0, none⟩ = false ∧ w'.frozen? ⟨W0.heap.size, 1, none⟩ = false ∧ w'.frozen? ⟨W0.heap.size, 2, none⟩ = false ∧ w'.frozen? ⟨W0.heap.size, 3, none⟩ = false) := hide fun X hX => by
          subst hX
          refine (cS _).mono fun e w' ⟨he, hb'⟩ => ?_
          have hx := ((Below.refl W0.heap.size W0).alloc (Nat.le_refl _) (.cells #[.int .i64 0, .bool false, .int .i64 0, .int .i64 0] 76)).drew.trans (hb'.mono (by simp))
          have hz : Blk w' W0.heap.size 76 #[.int .i64 0, .bool false, .int .i64 0, .int .i64 0] := Blk.below (Blk.drew (blk_at W0 rfl)) hb' (by simp)
          exact ⟨he, hide hx, S0.out _ hx, ⟨hz.cell 0, hz.cell 1, hz.cell 2, hz.cell 3⟩, hz.frozen 0, hz.frozen 1, hz.frozen 2, hz.frozen 3⟩
        obtain ⟨⟨c0, c1, c2, c3⟩, x0⟩ := S0.out W0 (Below.refl _ _)
        have n1 : w.heap.size ≠ W0.heap.size := Nat.ne_of_lt kL.lt
        have n2 : G ≠ W0.heap.size := Nat.ne_of_lt kG.lt
        have n3 : W0.heap.size ≠ w.heap.size := n1.symm
        have n4 : W0.heap.size ≠ G := n2.symm
        have hwr : IntKind.i64.wrap ((4 : Int) - 1) = 3 := by decide +kernel
        have hwr2 : ((4 : Int) - 1) = 3 := by decide
        clear hO kL kG hb hE hN cS
        go_wp2_with fail
        go_region_held (fun w' => (w'.cell? ⟨w.heap.size, 0, none⟩ = some (.int .i64 s) ∧ w'.cell? ⟨w.heap.size, 1, none⟩ = some (.bool a) ∧ w'.cell? ⟨w.heap.size, 2, none⟩ = some (.int .i64 m) ∧ w'.cell? ⟨w.heap.size, 3, none⟩ = some (.int .i64 d)) ∧ w'.cell? ⟨G, 3, none⟩ = some (.int .i64 0)) (go_keep)
          (first | (go_at_call 92; (with_reducible refine (cA.out _ rfl).mono ?_); rintro r w5 ⟨rfl, HB5, ⟨j0, j1, j2, j3⟩, y0⟩)
                 | (go_at_call 92; (with_reducible refine (cB.out _ rfl).mono ?_); rintro r w5 ⟨rfl, HB5, ⟨⟨j0, j1, j2, j3⟩, y0⟩, ⟨z0, z1, z2, z3⟩, u0, u1, u2, u3⟩))
        · have hba := HB5.out.alloc HB5.out.size (.cells #[.int .i64 s2, .bool a2, .int .i64 m2, .int .i64 d2] 76)
          clear j0 j1 j2 j3 y0 c0 c1 c2 c3 x0
          generalize w5.alloc (.cells #[.int .i64 s2, .bool a2, .int .i64 m2, .int .i64 d2] 76) = W6 at hba ⊢
          have HBA := Lib.hid hba
          clear n1 n2 n3 n4 hba
          obtain ⟨hO, kL, kG, hb⟩ := HI.out
          have kL2 := kL.below HBA.out kL.lt
          have kG2 := kG.below HBA.out kG.lt
          have hb2 := hb.trans (HBA.out.mono hb.size)
          by_cases hE0 : E = 0
          · obtain ⟨v', w6, hrun, hown, hb5, _⟩ := app_int (own_below hO HBA.out) (show G + 1 ≤ W6.heap.size from kG2.lt) (by omega) 4
            have hF : mayF (s, a, m, d) 4 = true := by rw [HF.out, hE0]; rfl
            have HQ := Lib.hid (And.intro hF (And.intro hown (And.intro (kL2.below hb5 (by omega)) (And.intro (kG2.below hb5 (Nat.lt_succ_self _)) (hb2.trans (hb5.mono (by omega)))))))
            have HRUN := Lib.hid hrun
            subst hE0
            clear hrun hown hb5 hF kL2 kG2 hb2 hO kL kG hb
            go_wp2_with (at_builtin; refine wpList_append_run HRUN.out rfl _ _ rfl rfl rfl rfl ?_)
            go_roundw
            case rel => exact ⟨4, _, rfl, by omega, by omega, hide (by rw [mayL_yes HQ.out.1]; exact HQ.out.2)⟩
            case measure => simp [intOf]
          · have e2 : ((E : Int) == 0) = false := beq_eq_false_iff_ne.2 (by omega)
            have hF : mayF (s, a, m, d) 4 = false := by rw [HF.out]; simpa using hE0
            have HQ := Lib.hid (And.intro hF (And.intro (own_below hO HBA.out) (And.intro kL2 (And.intro kG2 hb2))))
            clear kL2 kG2 hb2 hO kL kG hb hF
            go_wp2_with fail
            go_roundw
            case rel => exact ⟨4, _, rfl, by omega, by omega, hide (by rw [mayL_no HQ.out.1]; exact HQ.out.2)⟩
            case measure => simp [intOf]
        · have hba := (((HB5.out.setCell (p := ⟨W0.heap.size, 0, none⟩) (Nat.le_refl _) (.int .i64 s2)).setCell (p := ⟨W0.heap.size, 1, none⟩) (Nat.le_refl _) (.bool a2)).setCell (p := ⟨W0.heap.size, 2, none⟩) (Nat.le_refl _) (.int .i64 m2)).setCell (p := ⟨W0.heap.size, 3, none⟩) (Nat.le_refl _) (.int .i64 d2)
          clear j0 j1 j2 j3 y0 z0 z1 z2 z3 u0 u1 u2 u3 c0 c1 c2 c3 x0
          generalize (((w5.setCell ⟨W0.heap.size, 0, none⟩ (.int .i64 s2)).setCell ⟨W0.heap.size, 1, none⟩ (.bool a2)).setCell ⟨W0.heap.size, 2, none⟩ (.int .i64 m2)).setCell ⟨W0.heap.size, 3, none⟩ (.int .i64 d2) = W6 at hba ⊢
          have HBA := Lib.hid hba
          clear n1 n2 n3 n4 hba
          obtain ⟨hO, kL, kG, hb⟩ := HI.out
          have kL2 := kL.below HBA.out kL.lt
          have kG2 := kG.below HBA.out kG.lt
          have hb2 := hb.trans (HBA.out.mono hb.size)
          by_cases hE0 : E = 0
          · obtain ⟨v', w6, hrun, hown, hb5, _⟩ := app_int (own_below hO HBA.out) (show G + 1 ≤ W6.heap.size from kG2.lt) (by omega) 4
            have hF : mayF (s, a, m, d) 4 = true := by rw [HF.out, hE0]; rfl
            have HQ := Lib.hid (And.intro hF (And.intro hown (And.intro (kL2.below hb5 (by omega)) (And.intro (kG2.below hb5 (Nat.lt_succ_self _)) (hb2.trans (hb5.mono (by omega)))))))
            have HRUN := Lib.hid hrun
            subst hE0
            clear hrun hown hb5 hF kL2 kG2 hb2 hO kL kG hb
            go_wp2_with (at_builtin; refine wpList_append_run HRUN.out rfl _ _ rfl rfl rfl rfl ?_)
            go_roundw
            case rel => exact ⟨4, _, rfl, by omega, by omega, hide (by rw [mayL_yes HQ.out.1]; exact HQ.out.2)⟩
            case measure => simp [intOf]
          · have e2 : ((E : Int) == 0) = false := beq_eq_false_iff_ne.2 (by omega)
            have hF : mayF (s, a, m, d) 4 = false := by rw [HF.out]; simpa using hE0
            have HQ := Lib.hid (And.intro hF (And.intro (own_below hO HBA.out) (And.intro kL2 (And.intro kG2 hb2))))
            clear kL2 kG2 hb2 hO kL kG hb hF
            go_wp2_with fail
            go_roundw
            case rel => exact ⟨4, _, rfl, by omega, by omega, hide (by rw [mayL_no HQ.out.1]; exact HQ.out.2)⟩
            case measure => simp [intOf]
        · have hba := (((HB5.out.setCell (p := ⟨W0.heap.size, 0, none⟩) (Nat.le_refl _) (.int .i64 s2)).setCell (p := ⟨W0.heap.size, 1, none⟩) (Nat.le_refl _) (.bool a2)).setCell (p := ⟨W0.heap.size, 2, none⟩) (Nat.le_refl _) (.int .i64 m2)).setCell (p := ⟨W0.heap.size, 3, none⟩) (Nat.le_refl _) (.int .i64 d2)
          clear j0 j1 j2 j3 y0 z0 z1 z2 z3 u0 u1 u2 u3 c0 c1 c2 c3 x0
          generalize (((w5.setCell ⟨W0.heap.size, 0, none⟩ (.int .i64 s2)).setCell ⟨W0.heap.size, 1, none⟩ (.bool a2)).setCell ⟨W0.heap.size, 2, none⟩ (.int .i64 m2)).setCell ⟨W0.heap.size, 3, none⟩ (.int .i64 d2) = W6 at hba ⊢
          have HBA := Lib.hid hba
          clear n1 n2 n3 n4 hba
          obtain ⟨hO, kL, kG, hb⟩ := HI.out
          have kL2 := kL.below HBA.out kL.lt
          have kG2 := kG.below HBA.out kG.lt
          have hb2 := hb.trans (HBA.out.mono hb.size)
          by_cases hE0 : E = 0
          · obtain ⟨v', w6, hrun, hown, hb5, _⟩ := app_int (own_below hO HBA.out) (show G + 1 ≤ W6.heap.size from kG2.lt) (by omega) 4
            have hF : mayF (s, a, m, d) 4 = true := by rw [HF.out, hE0]; rfl
            have HQ := Lib.hid (And.intro hF (And.intro hown (And.intro (kL2.below hb5 (by omega)) (And.intro (kG2.below hb5 (Nat.lt_succ_self _)) (hb2.trans (hb5.mono (by omega)))))))
            have HRUN := Lib.hid hrun
            subst hE0
            clear hrun hown hb5 hF kL2 kG2 hb2 hO kL kG hb
            go_wp2_with (at_builtin; refine wpList_append_run HRUN.out rfl _ _ rfl rfl rfl rfl ?_)
            go_roundw
            case rel => exact ⟨4, _, rfl, by omega, by omega, hide (by rw [mayL_yes HQ.out.1]; exact HQ.out.2)⟩
            case measure => simp [intOf]
          · have e2 : ((E : Int) == 0) = false := beq_eq_false_iff_ne.2 (by omega)
            have hF : mayF (s, a, m, d) 4 = false := by rw [HF.out]; simpa using hE0
            have HQ := Lib.hid (And.intro hF (And.intro (own_below hO HBA.out) (And.intro kL2 (And.intro kG2 hb2))))
            clear kL2 kG2 hb2 hO kL kG hb hF
            go_wp2_with fail
            go_roundw
            case rel => exact ⟨4, _, rfl, by omega, by omega, hide (by rw [mayL_no HQ.out.1]; exact HQ.out.2)⟩
            case measure => simp [intOf]
      · obtain rfl : iv = 5 := by omega
        clear hiv hj
        obtain ⟨hO, kL, kG, hb⟩ := HO.out
        obtain ⟨A', cap, rfl⟩ := own_slice hO
        have HQ := Lib.hid (And.intro hO hb)
        clear hO kL kG hb
        go_wp2_with fail
        go_ret2
        exact ⟨A', cap, rfl, own_capA' HQ.out.1, Reads.of_own HQ.out.1, HQ.out.2⟩
end Go.Proofs.YtepemdmjbfoiaaaDoor
