/-
  PersistKnown, the law.
-/
import Derived.Test.YtepemdmjbfoiaaaDoorPe11
namespace Go.Proofs.YtepemdmjbfoiaaaDoor
open Go.RowKit

theorem kR1 (w : World) : Calls Tryd.prog 82 #[.agg #[.int .i64 2, .bool false, .int .i64 0, .int .i64 0], .slice (some ⟨w.heap.size, 0, none⟩) 1 1] (w.alloc (.cells #[.int .i64 1, .int .i64 0, .bool false] 81)) fun e w' => e = .returned (.bool true) ∧ Below w.heap.size w w' := by
  have hb := (Below.refl w.heap.size w).alloc (Nat.le_refl _) (.cells #[.int .i64 1, .int .i64 0, .bool false] 81)
  exact (runs_hit (2, false, 0, 0) (some ⟨w.heap.size, 0, none⟩) 1 1 [(1, 0, false)] _ (reads_newE w 81 [(1, 0, false)] _ rfl) (by omega) (by decide +kernel)).mono fun e w' ⟨he, h⟩ => ⟨he, hb.trans (h.mono hb.size)⟩
theorem kR2 (w : World) : Calls Tryd.prog 82 #[.agg #[.int .i64 2, .bool true, .int .i64 1, .int .i64 200], .slice (some ⟨w.heap.size, 0, none⟩) 3 3] (w.alloc (.cells #[.int .i64 1, .int .i64 0, .bool false, .int .i64 3, .int .i64 200, .bool false, .int .i64 1, .int .i64 0, .bool true] 81)) fun e w' => e = .returned (.bool true) ∧ Below w.heap.size w w' := by
  have hb := (Below.refl w.heap.size w).alloc (Nat.le_refl _) (.cells #[.int .i64 1, .int .i64 0, .bool false, .int .i64 3, .int .i64 200, .bool false, .int .i64 1, .int .i64 0, .bool true] 81)
  exact (runs_hit (2, true, 1, 200) (some ⟨w.heap.size, 0, none⟩) 3 3 [(1, 0, false), (3, 200, false), (1, 0, true)] _ (reads_newE w 81 [(1, 0, false), (3, 200, false), (1, 0, true)] _ rfl) (by omega) (by decide +kernel)).mono fun e w' ⟨he, h⟩ => ⟨he, hb.trans (h.mono hb.size)⟩
theorem kR3 (w : World) : Calls Tryd.prog 82 #[.agg #[.int .i64 3, .bool false, .int .i64 2, .int .i64 200], .slice (some ⟨w.heap.size, 0, none⟩) 4 4] (w.alloc (.cells #[.int .i64 1, .int .i64 0, .bool false, .int .i64 3, .int .i64 200, .bool false, .int .i64 1, .int .i64 0, .bool true, .int .i64 3, .int .i64 200, .bool false] 81)) fun e w' => e = .returned (.bool true) ∧ Below w.heap.size w w' := by
  have hb := (Below.refl w.heap.size w).alloc (Nat.le_refl _) (.cells #[.int .i64 1, .int .i64 0, .bool false, .int .i64 3, .int .i64 200, .bool false, .int .i64 1, .int .i64 0, .bool true, .int .i64 3, .int .i64 200, .bool false] 81)
  exact (runs_hit (3, false, 2, 200) (some ⟨w.heap.size, 0, none⟩) 4 4 [(1, 0, false), (3, 200, false), (1, 0, true), (3, 200, false)] _ (reads_newE w 81 [(1, 0, false), (3, 200, false), (1, 0, true), (3, 200, false)] _ rfl) (by omega) (by decide +kernel)).mono fun e w' ⟨he, h⟩ => ⟨he, hb.trans (h.mono hb.size)⟩
theorem kR4 (w : World) : Calls Tryd.prog 82 #[.agg #[.int .i64 2, .bool true, .int .i64 0, .int .i64 0], .slice (some ⟨w.heap.size, 0, none⟩) 2 2] (w.alloc (.cells #[.int .i64 1, .int .i64 0, .bool false, .int .i64 4, .int .i64 0, .bool false] 81)) fun e w' => e = .returned (.bool true) ∧ Below w.heap.size w w' := by
  have hb := (Below.refl w.heap.size w).alloc (Nat.le_refl _) (.cells #[.int .i64 1, .int .i64 0, .bool false, .int .i64 4, .int .i64 0, .bool false] 81)
  exact (runs_hit (2, true, 0, 0) (some ⟨w.heap.size, 0, none⟩) 2 2 [(1, 0, false), (4, 0, false)] _ (reads_newE w 81 [(1, 0, false), (4, 0, false)] _ rfl) (by omega) (by decide +kernel)).mono fun e w' ⟨he, h⟩ => ⟨he, hb.trans (h.mono hb.size)⟩
theorem kR5 (w : World) : Calls Tryd.prog 82 #[.agg #[.int .i64 3, .bool false, .int .i64 1, .int .i64 404], .slice (some ⟨w.heap.size, 0, none⟩) 3 3] (w.alloc (.cells #[.int .i64 1, .int .i64 0, .bool false, .int .i64 4, .int .i64 0, .bool false, .int .i64 3, .int .i64 404, .bool false] 81)) fun e w' => e = .returned (.bool true) ∧ Below w.heap.size w w' := by
  have hb := (Below.refl w.heap.size w).alloc (Nat.le_refl _) (.cells #[.int .i64 1, .int .i64 0, .bool false, .int .i64 4, .int .i64 0, .bool false, .int .i64 3, .int .i64 404, .bool false] 81)
  exact (runs_hit (3, false, 1, 404) (some ⟨w.heap.size, 0, none⟩) 3 3 [(1, 0, false), (4, 0, false), (3, 404, false)] _ (reads_newE w 81 [(1, 0, false), (4, 0, false), (3, 404, false)] _ rfl) (by omega) (by decide +kernel)).mono fun e w' ⟨he, h⟩ => ⟨he, hb.trans (h.mono hb.size)⟩
theorem kF1 (w : World) : Calls Tryd.prog 83 #[.int .i64 9, .slice (some ⟨w.heap.size, 0, none⟩) 2 2] (w.alloc (.cells #[.int .i64 2, .int .i64 400, .bool false, .int .i64 1, .int .i64 0, .bool false] 81)) fun e w' => e = .returned (.bool true) ∧ Below w.heap.size w w' := by
  have hb := (Below.refl w.heap.size w).alloc (Nat.le_refl _) (.cells #[.int .i64 2, .int .i64 400, .bool false, .int .i64 1, .int .i64 0, .bool false] 81)
  exact (fails_hit 9 (some ⟨w.heap.size, 0, none⟩) 1 2 [(2, 400, false), (1, 0, false)] _ (reads_newE w 81 [(2, 400, false), (1, 0, false)] _ rfl) (by omega) (by decide +kernel)).mono fun e w' ⟨he, h⟩ => ⟨he, hb.trans (h.mono hb.size)⟩
theorem kF2 (w : World) : Calls Tryd.prog 83 #[.int .i64 9, .slice (some ⟨w.heap.size, 0, none⟩) 1 1] (w.alloc (.cells #[.int .i64 3, .int .i64 200, .bool false] 81)) fun e w' => e = .returned (.bool true) ∧ Below w.heap.size w w' := by
  have hb := (Below.refl w.heap.size w).alloc (Nat.le_refl _) (.cells #[.int .i64 3, .int .i64 200, .bool false] 81)
  exact (fails_hit 9 (some ⟨w.heap.size, 0, none⟩) 0 1 [(3, 200, false)] _ (reads_newE w 81 [(3, 200, false)] _ rfl) (by omega) (by decide +kernel)).mono fun e w' ⟨he, h⟩ => ⟨he, hb.trans (h.mono hb.size)⟩
theorem kF3 (w : World) : Calls Tryd.prog 83 #[.int .i64 2, .slice (some ⟨w.heap.size, 0, none⟩) 1 1] (w.alloc (.cells #[.int .i64 2, .int .i64 200, .bool false] 81)) fun e w' => e = .returned (.bool true) ∧ Below w.heap.size w w' := by
  have hb := (Below.refl w.heap.size w).alloc (Nat.le_refl _) (.cells #[.int .i64 2, .int .i64 200, .bool false] 81)
  exact (fails_hit 2 (some ⟨w.heap.size, 0, none⟩) 0 1 [(2, 200, false)] _ (reads_newE w 81 [(2, 200, false)] _ rfl) (by omega) (by decide +kernel)).mono fun e w' ⟨he, h⟩ => ⟨he, hb.trans (h.mono hb.size)⟩
theorem kF4 (w : World) : Calls Tryd.prog 83 #[.int .i64 10, .slice (some ⟨w.heap.size, 0, none⟩) 1 1] (w.alloc (.cells #[.int .i64 5, .int .i64 0, .bool false] 81)) fun e w' => e = .returned (.bool true) ∧ Below w.heap.size w w' := by
  have hb := (Below.refl w.heap.size w).alloc (Nat.le_refl _) (.cells #[.int .i64 5, .int .i64 0, .bool false] 81)
  exact (fails_hit 10 (some ⟨w.heap.size, 0, none⟩) 0 1 [(5, 0, false)] _ (reads_newE w 81 [(5, 0, false)] _ rfl) (by omega) (by decide +kernel)).mono fun e w' ⟨he, h⟩ => ⟨he, hb.trans (h.mono hb.size)⟩
theorem kM1 (w : World) : Calls Tryd.prog 85 #[.agg #[.int .i64 1, .bool false, .int .i64 0, .int .i64 0], .slice (some ⟨w.heap.size, 0, none⟩) 3 3] (w.alloc (.cells #[.int .i64 1, .int .i64 2, .int .i64 4] 3)) fun e w' => e = .returned (.bool true) ∧ Below w.heap.size w w' := by
  have hb := (Below.refl w.heap.size w).alloc (Nat.le_refl _) (.cells #[.int .i64 1, .int .i64 2, .int .i64 4] 3)
  have hr : Reads (w.alloc (.cells #[.int .i64 1, .int .i64 2, .int .i64 4] 3)) (w.alloc (.cells #[.int .i64 1, .int .i64 2, .int .i64 4] 3)).heap.size 1 (some ⟨w.heap.size, 0, none⟩) 3 (ints [1, 2, 4]) := by
    refine ⟨rfl, fun _ => ⟨_, rfl, by simp, fun j u hu => ?_⟩⟩
    rw [Addr.add_lit, Nat.zero_add, (Blk.new w 3 #[.int .i64 1, .int .i64 2, .int .i64 4]).cell j]
    simpa [ints] using hu
  exact (may_hit (1, false, 0, 0) (some ⟨w.heap.size, 0, none⟩) 3 3 [1, 2, 4] _ hr (by omega) (by decide +kernel)).mono fun e w' ⟨he, h⟩ => ⟨he, hb.trans (h.mono hb.size)⟩
theorem kM2 (w : World) : Calls Tryd.prog 85 #[.agg #[.int .i64 2, .bool false, .int .i64 0, .int .i64 0], .slice (some ⟨w.heap.size, 0, none⟩) 2 2] (w.alloc (.cells #[.int .i64 3, .int .i64 4] 3)) fun e w' => e = .returned (.bool true) ∧ Below w.heap.size w w' := by
  have hb := (Below.refl w.heap.size w).alloc (Nat.le_refl _) (.cells #[.int .i64 3, .int .i64 4] 3)
  have hr : Reads (w.alloc (.cells #[.int .i64 3, .int .i64 4] 3)) (w.alloc (.cells #[.int .i64 3, .int .i64 4] 3)).heap.size 1 (some ⟨w.heap.size, 0, none⟩) 2 (ints [3, 4]) := by
    refine ⟨rfl, fun _ => ⟨_, rfl, by simp, fun j u hu => ?_⟩⟩
    rw [Addr.add_lit, Nat.zero_add, (Blk.new w 3 #[.int .i64 3, .int .i64 4]).cell j]
    simpa [ints] using hu
  exact (may_hit (2, false, 0, 0) (some ⟨w.heap.size, 0, none⟩) 2 2 [3, 4] _ hr (by omega) (by decide +kernel)).mono fun e w' ⟨he, h⟩ => ⟨he, hb.trans (h.mono hb.size)⟩
theorem kM3 (w : World) : Calls Tryd.prog 85 #[.agg #[.int .i64 3, .bool false, .int .i64 1, .int .i64 400], .slice none 0 0] w fun e w' => e = .returned (.bool true) ∧ Below w.heap.size w w' :=
  may_hit (3, false, 1, 400) none 0 0 [] w Reads.none_ (by omega) (by decide +kernel)
theorem kC1 (w : World) : Calls Tryd.prog 84 #[.string ⟨#[97, 32, 98]⟩] w fun e w' => e = .returned (.bool true) ∧ Below w.heap.size w w' := closes_any _ w (by decide) (by decide +kernel)
theorem kK1 (w : World) : Calls Tryd.prog 81 #[.agg #[.int .i64 2, .bool false, .int .i64 0, .int .i64 0], .bool false] w fun e w' => e = .returned (.tuple #[.bool true, .int .i64 0]) ∧ Below w.heap.size w w' := by
  have h := pKeep (2, false, 0, 0) false w
  rw [show keepV (2, false, 0, 0) false = (true, 0) by decide +kernel] at h
  exact h
theorem kK2 (w : World) : Calls Tryd.prog 81 #[.agg #[.int .i64 2, .bool true, .int .i64 0, .int .i64 0], .bool false] w fun e w' => e = .returned (.tuple #[.bool false, .int .i64 0]) ∧ Below w.heap.size w w' := by
  have h := pKeep (2, true, 0, 0) false w
  rw [show keepV (2, true, 0, 0) false = (false, 0) by decide +kernel] at h
  exact h
theorem kH1 (w : World) : Calls Tryd.prog 86 #[.agg #[.int .i64 1, .bool true, .int .i64 0, .int .i64 0]] w fun e w' => e = .returned (.int .i64 3) ∧ Below w.heap.size w w' := by
  have h := pCheck 1 true 0 0 w
  rw [show chkL 1 true 0 0 = 3 by decide +kernel] at h
  exact h
theorem kH2 (w : World) : Calls Tryd.prog 86 #[.agg #[.int .i64 1, .bool false, .int .i64 0, .int .i64 200]] w fun e w' => e = .returned (.int .i64 2) ∧ Below w.heap.size w w' := by
  have h := pCheck 1 false 0 200 w
  rw [show chkL 1 false 0 200 = 2 by decide +kernel] at h
  exact h
theorem kH3 (w : World) : Calls Tryd.prog 86 #[.agg #[.int .i64 4, .bool false, .int .i64 0, .int .i64 0]] w fun e w' => e = .returned (.int .i64 9) ∧ Below w.heap.size w w' := by
  have h := pCheck 4 false 0 0 w
  rw [show chkL 4 false 0 0 = 9 by decide +kernel] at h
  exact h

set_option maxRecDepth 100000 in
set_option maxHeartbeats 16000000 in
theorem PersistKnown_true (w : World) : Calls Tryd.prog 17 #[] w fun e w' => e = .returned (.bool true) ∧ Below w.heap.size w w' := by
  have CE := Lib.hid event_any
  have cR1 := Lib.hid kR1
  have cR2 := Lib.hid kR2
  have cR3 := Lib.hid kR3
  have cR4 := Lib.hid kR4
  have cR5 := Lib.hid kR5
  have cF1 := Lib.hid kF1
  have cF2 := Lib.hid kF2
  have cF3 := Lib.hid kF3
  have cF4 := Lib.hid kF4
  have cM1 := Lib.hid kM1
  have cM2 := Lib.hid kM2
  have cM3 := Lib.hid kM3
  have cC1 := Lib.hid kC1
  have cK1 := Lib.hid kK1
  have cK2 := Lib.hid kK2
  have cH1 := Lib.hid kH1
  have cH2 := Lib.hid kH2
  have cH3 := Lib.hid kH3
  have AW := Lib.hid awake13
  have CN := Lib.hid pNew
  have hq : ∀ w, (binOp .eql 76 (.agg #[.int .i64 1, .bool false, .int .i64 0, .int .i64 0]) (.agg #[.int .i64 1, .bool false, .int .i64 0, .int .i64 0])).run Tryd.prog w = .ok (.bool true) w := fun w => by rw [eqLk]; rfl
  go_enter Tryd.func17, Tryd.ntmps17
  go_wp2_with fail
  (with_reducible refine (CE.out _ _ _ _).mono ?_); rintro e w1 ⟨rfl, g1⟩
  go_wp2_with fail
  (with_reducible refine (CE.out _ _ _ _).mono ?_); rintro e w2 ⟨rfl, g2⟩
  have h2 := g1.trans (g2.mono g1.size)
  go_wp2_with fail
  (with_reducible refine (CE.out _ _ _ _).mono ?_); rintro e w3 ⟨rfl, g3⟩
  have h3 := h2.trans (g3.mono h2.size)
  clear g1 g2 g3 h2
  obtain ⟨H, hH⟩ : ∃ H, w3.heap.size = H := ⟨_, rfl⟩
  have m1 := (((blk_at (t := 81) (cs := #[.int .i64 1, .int .i64 0, .bool false]) w3 hH).alloc (.cells #[.int .i64 3, .int .i64 200, .bool false] 81)).alloc (.cells #[.int .i64 1, .int .i64 0, .bool true] 81))
  have m2 := ((blk_at (t := 81) (cs := #[.int .i64 3, .int .i64 200, .bool false]) (w3.alloc (.cells #[.int .i64 1, .int .i64 0, .bool false] 81)) (g := H + 1) (by simp [hH])).alloc (.cells #[.int .i64 1, .int .i64 0, .bool true] 81))
  have m3 := blk_at (t := 81) (cs := #[.int .i64 1, .int .i64 0, .bool true]) ((w3.alloc (.cells #[.int .i64 1, .int .i64 0, .bool false] 81)).alloc (.cells #[.int .i64 3, .int .i64 200, .bool false] 81)) (g := H + 1 + 1) (by simp [hH])
  have hb := h3.trans ((below3 w3 (.cells #[.int .i64 1, .int .i64 0, .bool false] 81) (.cells #[.int .i64 3, .int .i64 200, .bool false] 81) (.cells #[.int .i64 1, .int .i64 0, .bool true] 81)).mono h3.size)
  go_wp2_with fail
  generalize ((w3.alloc (.cells #[.int .i64 1, .int .i64 0, .bool false] 81)).alloc (.cells #[.int .i64 3, .int .i64 200, .bool false] 81)).alloc (.cells #[.int .i64 1, .int .i64 0, .bool true] 81) = W1 at m1 m2 m3 hb ⊢
  clear hH h3
  (with_reducible refine (CE.out _ _ _ _).mono ?_); rintro e w4 ⟨rfl, g4⟩
  have m1 := m1.below g4 m1.lt
  have m2 := m2.below g4 m2.lt
  have m3 := m3.below g4 m3.lt
  have hb := hb.trans (g4.mono hb.size)
  clear g4
  go_wp2_with fail
  (with_reducible refine (CE.out _ _ _ _).mono ?_); rintro e w5 ⟨rfl, g5⟩
  have m1 := ((m1.below g5 m1.lt).alloc (.cells #[.int .i64 2, .int .i64 400, .bool false] 81)).alloc (.cells #[.int .i64 4, .int .i64 0, .bool false] 81)
  have m2 := ((m2.below g5 m2.lt).alloc (.cells #[.int .i64 2, .int .i64 400, .bool false] 81)).alloc (.cells #[.int .i64 4, .int .i64 0, .bool false] 81)
  have m3 := ((m3.below g5 m3.lt).alloc (.cells #[.int .i64 2, .int .i64 400, .bool false] 81)).alloc (.cells #[.int .i64 4, .int .i64 0, .bool false] 81)
  have hb := hb.trans (g5.mono hb.size)
  have hb := hb.alloc hb.size (.cells #[.int .i64 2, .int .i64 400, .bool false] 81)
  have hb := hb.alloc hb.size (.cells #[.int .i64 4, .int .i64 0, .bool false] 81)
  obtain ⟨J, hJ⟩ : ∃ J, w5.heap.size = J := ⟨_, rfl⟩
  have m4 := (blk_at (t := 81) (cs := #[.int .i64 2, .int .i64 400, .bool false]) w5 hJ).alloc (.cells #[.int .i64 4, .int .i64 0, .bool false] 81)
  have m5 := blk_at (t := 81) (cs := #[.int .i64 4, .int .i64 0, .bool false]) (w5.alloc (.cells #[.int .i64 2, .int .i64 400, .bool false] 81)) (g := J + 1) (by simp [hJ])
  clear g5
  go_wp2_with fail
  generalize (w5.alloc (.cells #[.int .i64 2, .int .i64 400, .bool false] 81)).alloc (.cells #[.int .i64 4, .int .i64 0, .bool false] 81) = Wb at m1 m2 m3 m4 m5 hb ⊢
  clear hJ
  have S0 : Hid (∀ w', Below Wb.heap.size Wb w' → (w'.cell? ⟨H, 0, none⟩ = some (.int .i64 1) ∧ w'.cell? ⟨H, 1, none⟩ = some (.int .i64 0) ∧ w'.cell? ⟨H, 2, none⟩ = some (.bool false)) ∧ (w'.cell? ⟨H + 1, 0, none⟩ = some (.int .i64 3) ∧ w'.cell? ⟨H + 1, 1, none⟩ = some (.int .i64 200) ∧ w'.cell? ⟨H + 1, 2, none⟩ = some (.bool false)) ∧ (w'.cell? ⟨H + 1 + 1, 0, none⟩ = some (.int .i64 1) ∧ w'.cell? ⟨H + 1 + 1, 1, none⟩ = some (.int .i64 0) ∧ w'.cell? ⟨H + 1 + 1, 2, none⟩ = some (.bool true)) ∧ (w'.cell? ⟨J, 0, none⟩ = some (.int .i64 2) ∧ w'.cell? ⟨J, 1, none⟩ = some (.int .i64 400) ∧ w'.cell? ⟨J, 2, none⟩ = some (.bool false)) ∧ (w'.cell? ⟨J + 1, 0, none⟩ = some (.int .i64 4) ∧ w'.cell? ⟨J + 1, 1, none⟩ = some (.int .i64 0) ∧ w'.cell? ⟨J + 1, 2, none⟩ = some (.bool false))) := hide fun w' hw => by
    have q1 := m1.below hw m1.lt
    have q2 := m2.below hw m2.lt
    have q3 := m3.below hw m3.lt
    have q4 := m4.below hw m4.lt
    have q5 := m5.below hw m5.lt
    exact ⟨⟨q1.cell 0, q1.cell 1, q1.cell 2⟩, ⟨q2.cell 0, q2.cell 1, q2.cell 2⟩, ⟨q3.cell 0, q3.cell 1, q3.cell 2⟩, ⟨q4.cell 0, q4.cell 1, q4.cell 2⟩, q5.cell 0, q5.cell 1, q5.cell 2⟩
  have HB := Lib.hid hb
  clear m1 m2 m3 m4 m5 hb
  (with_reducible refine (CN.out _).mono ?_); rintro e x1 ⟨rfl, h1⟩
  obtain ⟨⟨a00, a01, a02⟩, ⟨a10, a11, a12⟩, ⟨a20, a21, a22⟩, ⟨a30, a31, a32⟩, ⟨a40, a41, a42⟩⟩ := S0.out x1 h1
  go_wp2_with fail
  (with_reducible refine (cR1.out _).mono ?_); rintro e x2 ⟨rfl, g1⟩
  clear a00 a01 a02 a10 a11 a12 a20 a21 a22 a30 a31 a32 a40 a41 a42
  have h2 := h1.trans (g1.mono h1.size)
  clear g1 h1
  obtain ⟨⟨a00, a01, a02⟩, ⟨a10, a11, a12⟩, ⟨a20, a21, a22⟩, ⟨a30, a31, a32⟩, ⟨a40, a41, a42⟩⟩ := S0.out x2 h2
  go_wp2_with fail
  (with_reducible refine (cR2.out _).mono ?_); rintro e x3 ⟨rfl, g1⟩
  clear a00 a01 a02 a10 a11 a12 a20 a21 a22 a30 a31 a32 a40 a41 a42
  have h3 := h2.trans (g1.mono h2.size)
  clear g1 h2
  obtain ⟨⟨a00, a01, a02⟩, ⟨a10, a11, a12⟩, ⟨a20, a21, a22⟩, ⟨a30, a31, a32⟩, ⟨a40, a41, a42⟩⟩ := S0.out x3 h3
  go_wp2_with fail
  (with_reducible refine (cR3.out _).mono ?_); rintro e x4 ⟨rfl, g1⟩
  clear a00 a01 a02 a10 a11 a12 a20 a21 a22 a30 a31 a32 a40 a41 a42
  have h4 := h3.trans (g1.mono h3.size)
  clear g1 h3
  obtain ⟨⟨a00, a01, a02⟩, ⟨a10, a11, a12⟩, ⟨a20, a21, a22⟩, ⟨a30, a31, a32⟩, ⟨a40, a41, a42⟩⟩ := S0.out x4 h4
  go_wp2_with fail
  (with_reducible refine (cF1.out _).mono ?_); rintro e x5 ⟨rfl, g1⟩
  clear a00 a01 a02 a10 a11 a12 a20 a21 a22 a30 a31 a32 a40 a41 a42
  have h5 := h4.trans (g1.mono h4.size)
  clear g1 h4
  have T0 : Hid (∀ w', Below Wb.heap.size Wb w' → (w'.cell? ⟨H, 0, none⟩ = some (.int .i64 1) ∧ w'.cell? ⟨H, 1, none⟩ = some (.int .i64 0) ∧ w'.cell? ⟨H, 2, none⟩ = some (.bool false)) ∧ (w'.cell? ⟨H + 1, 0, none⟩ = some (.int .i64 3) ∧ w'.cell? ⟨H + 1, 1, none⟩ = some (.int .i64 200) ∧ w'.cell? ⟨H + 1, 2, none⟩ = some (.bool false)) ∧ (w'.cell? ⟨J + 1, 0, none⟩ = some (.int .i64 4) ∧ w'.cell? ⟨J + 1, 1, none⟩ = some (.int .i64 0) ∧ w'.cell? ⟨J + 1, 2, none⟩ = some (.bool false))) := hide fun w' hw => by
    obtain ⟨p0, p1, _, _, p4⟩ := S0.out w' hw
    exact ⟨p0, p1, p4⟩
  obtain ⟨⟨a00, a01, a02⟩, ⟨a10, a11, a12⟩, ⟨a40, a41, a42⟩⟩ := T0.out x5 h5
  go_wp2_with fail
  have y1 : Hid (∀ X, Below Wb.heap.size Wb X → Calls Tryd.prog 82 #[.agg #[.int .i64 2, .bool true, .int .i64 0, .int .i64 0], .slice (some ⟨X.heap.size, 0, none⟩) 2 2] (X.alloc (.cells #[.int .i64 1, .int .i64 0, .bool false, .int .i64 4, .int .i64 0, .bool false] 81)).drew fun e w' => e = .returned (.bool true) ∧ Hid (Below Wb.heap.size Wb w') ∧ ((w'.cell? ⟨H, 0, none⟩ = some (.int .i64 1) ∧ w'.cell? ⟨H, 1, none⟩ = some (.int .i64 0) ∧ w'.cell? ⟨H, 2, none⟩ = some (.bool false)) ∧ (w'.cell? ⟨H + 1, 0, none⟩ = some (.int .i64 3) ∧ w'.cell? ⟨H + 1, 1, none⟩ = some (.int .i64 200) ∧ w'.cell? ⟨H + 1, 2, none⟩ = some (.bool false)) ∧ (w'.cell? ⟨J + 1, 0, none⟩ = some (.int .i64 4) ∧ w'.cell? ⟨J + 1, 1, none⟩ = some (.int .i64 0) ∧ w'.cell? ⟨J + 1, 2, none⟩ = some (.bool false)))) := hide fun X hX => (cR4.out X.drew).mono fun e w' ⟨he, hb'⟩ => ⟨he, hide (hX.trans ((Below.refl X.heap.size X).drew.trans hb' |>.mono hX.size)), T0.out _ (hX.trans ((Below.refl X.heap.size X).drew.trans hb' |>.mono hX.size))⟩
  have y2 : Hid (∀ X, Below Wb.heap.size Wb X → Calls Tryd.prog 82 #[.agg #[.int .i64 3, .bool false, .int .i64 1, .int .i64 404], .slice (some ⟨X.heap.size, 0, none⟩) 3 3] (X.alloc (.cells #[.int .i64 1, .int .i64 0, .bool false, .int .i64 4, .int .i64 0, .bool false, .int .i64 3, .int .i64 404, .bool false] 81)) fun e w' => e = .returned (.bool true) ∧ Hid (Below Wb.heap.size Wb w') ∧ ((w'.cell? ⟨H, 0, none⟩ = some (.int .i64 1) ∧ w'.cell? ⟨H, 1, none⟩ = some (.int .i64 0) ∧ w'.cell? ⟨H, 2, none⟩ = some (.bool false)) ∧ (w'.cell? ⟨H + 1, 0, none⟩ = some (.int .i64 3) ∧ w'.cell? ⟨H + 1, 1, none⟩ = some (.int .i64 200) ∧ w'.cell? ⟨H + 1, 2, none⟩ = some (.bool false)) ∧ (w'.cell? ⟨J + 1, 0, none⟩ = some (.int .i64 4) ∧ w'.cell? ⟨J + 1, 1, none⟩ = some (.int .i64 0) ∧ w'.cell? ⟨J + 1, 2, none⟩ = some (.bool false)))) := hide fun X hX => (cR5.out X).mono fun e w' ⟨he, hb'⟩ => ⟨he, hide (hX.trans (hb'.mono hX.size)), T0.out _ (hX.trans (hb'.mono hX.size))⟩
  have y3 : Hid (∀ X, Below Wb.heap.size Wb X → Calls Tryd.prog 83 #[.int .i64 9, .slice (some ⟨X.heap.size, 0, none⟩) 1 1] (X.alloc (.cells #[.int .i64 3, .int .i64 200, .bool false] 81)) fun e w' => e = .returned (.bool true) ∧ Hid (Below Wb.heap.size Wb w') ∧ ((w'.cell? ⟨H, 0, none⟩ = some (.int .i64 1) ∧ w'.cell? ⟨H, 1, none⟩ = some (.int .i64 0) ∧ w'.cell? ⟨H, 2, none⟩ = some (.bool false)) ∧ (w'.cell? ⟨H + 1, 0, none⟩ = some (.int .i64 3) ∧ w'.cell? ⟨H + 1, 1, none⟩ = some (.int .i64 200) ∧ w'.cell? ⟨H + 1, 2, none⟩ = some (.bool false)) ∧ (w'.cell? ⟨J + 1, 0, none⟩ = some (.int .i64 4) ∧ w'.cell? ⟨J + 1, 1, none⟩ = some (.int .i64 0) ∧ w'.cell? ⟨J + 1, 2, none⟩ = some (.bool false)))) := hide fun X hX => (cF2.out X).mono fun e w' ⟨he, hb'⟩ => ⟨he, hide (hX.trans (hb'.mono hX.size)), T0.out _ (hX.trans (hb'.mono hX.size))⟩
  have y4 : Hid (∀ X, Below Wb.heap.size Wb X → Calls Tryd.prog 83 #[.int .i64 2, .slice (some ⟨X.heap.size, 0, none⟩) 1 1] (X.alloc (.cells #[.int .i64 2, .int .i64 200, .bool false] 81)) fun e w' => e = .returned (.bool true) ∧ Hid (Below Wb.heap.size Wb w') ∧ ((w'.cell? ⟨H, 0, none⟩ = some (.int .i64 1) ∧ w'.cell? ⟨H, 1, none⟩ = some (.int .i64 0) ∧ w'.cell? ⟨H, 2, none⟩ = some (.bool false)) ∧ (w'.cell? ⟨H + 1, 0, none⟩ = some (.int .i64 3) ∧ w'.cell? ⟨H + 1, 1, none⟩ = some (.int .i64 200) ∧ w'.cell? ⟨H + 1, 2, none⟩ = some (.bool false)) ∧ (w'.cell? ⟨J + 1, 0, none⟩ = some (.int .i64 4) ∧ w'.cell? ⟨J + 1, 1, none⟩ = some (.int .i64 0) ∧ w'.cell? ⟨J + 1, 2, none⟩ = some (.bool false)))) := hide fun X hX => (cF3.out X).mono fun e w' ⟨he, hb'⟩ => ⟨he, hide (hX.trans (hb'.mono hX.size)), T0.out _ (hX.trans (hb'.mono hX.size))⟩
  have y5 : Hid (∀ X, Below Wb.heap.size Wb X → Calls Tryd.prog 83 #[.int .i64 10, .slice (some ⟨X.heap.size, 0, none⟩) 1 1] (X.alloc (.cells #[.int .i64 5, .int .i64 0, .bool false] 81)) fun e w' => e = .returned (.bool true) ∧ Hid (Below Wb.heap.size Wb w') ∧ ((w'.cell? ⟨H, 0, none⟩ = some (.int .i64 1) ∧ w'.cell? ⟨H, 1, none⟩ = some (.int .i64 0) ∧ w'.cell? ⟨H, 2, none⟩ = some (.bool false)) ∧ (w'.cell? ⟨H + 1, 0, none⟩ = some (.int .i64 3) ∧ w'.cell? ⟨H + 1, 1, none⟩ = some (.int .i64 200) ∧ w'.cell? ⟨H + 1, 2, none⟩ = some (.bool false)) ∧ (w'.cell? ⟨J + 1, 0, none⟩ = some (.int .i64 4) ∧ w'.cell? ⟨J + 1, 1, none⟩ = some (.int .i64 0) ∧ w'.cell? ⟨J + 1, 2, none⟩ = some (.bool false)))) := hide fun X hX => (cF4.out X).mono fun e w' ⟨he, hb'⟩ => ⟨he, hide (hX.trans (hb'.mono hX.size)), T0.out _ (hX.trans (hb'.mono hX.size))⟩
  have yE : Hid (∀ (k c : Int) (b : Bool) X, Below Wb.heap.size Wb X → Calls Tryd.prog 80 #[.int .i64 k, .int .i64 c, .bool b] X fun e w' => e = .returned (.agg #[.int .i64 k, .int .i64 c, .bool b]) ∧ Hid (Below Wb.heap.size Wb w') ∧ ((w'.cell? ⟨H, 0, none⟩ = some (.int .i64 1) ∧ w'.cell? ⟨H, 1, none⟩ = some (.int .i64 0) ∧ w'.cell? ⟨H, 2, none⟩ = some (.bool false)) ∧ (w'.cell? ⟨H + 1, 0, none⟩ = some (.int .i64 3) ∧ w'.cell? ⟨H + 1, 1, none⟩ = some (.int .i64 200) ∧ w'.cell? ⟨H + 1, 2, none⟩ = some (.bool false)) ∧ (w'.cell? ⟨J + 1, 0, none⟩ = some (.int .i64 4) ∧ w'.cell? ⟨J + 1, 1, none⟩ = some (.int .i64 0) ∧ w'.cell? ⟨J + 1, 2, none⟩ = some (.bool false)))) := hide fun k c b X hX => (CE.out k c b X).mono fun e w' ⟨he, hb'⟩ => ⟨he, hide (hX.trans (hb'.mono hX.size)), T0.out _ (hX.trans (hb'.mono hX.size))⟩
  go_region_held (fun w' => (w'.cell? ⟨H, 0, none⟩ = some (.int .i64 1) ∧ w'.cell? ⟨H, 1, none⟩ = some (.int .i64 0) ∧ w'.cell? ⟨H, 2, none⟩ = some (.bool false)) ∧ (w'.cell? ⟨H + 1, 0, none⟩ = some (.int .i64 3) ∧ w'.cell? ⟨H + 1, 1, none⟩ = some (.int .i64 200) ∧ w'.cell? ⟨H + 1, 2, none⟩ = some (.bool false)) ∧ (w'.cell? ⟨J + 1, 0, none⟩ = some (.int .i64 4) ∧ w'.cell? ⟨J + 1, 1, none⟩ = some (.int .i64 0) ∧ w'.cell? ⟨J + 1, 2, none⟩ = some (.bool false))) (go_keep)
    (first
      | (go_at_call 80; (with_reducible refine (yE.out _ _ _ _ (by first | assumption | exact Hid.out (by assumption))).mono ?_); rintro r v ⟨rfl, hv, ⟨b00, b01, b02⟩, ⟨b10, b11, b12⟩, ⟨b40, b41, b42⟩⟩)
      | (go_at_call 82; (with_reducible refine (y1.out _ (by first | assumption | exact Hid.out (by assumption))).mono ?_); rintro r v ⟨rfl, hv, ⟨b00, b01, b02⟩, ⟨b10, b11, b12⟩, ⟨b40, b41, b42⟩⟩)
      | (go_at_call 82; (with_reducible refine (y2.out _ (by first | assumption | exact Hid.out (by assumption))).mono ?_); rintro r v ⟨rfl, hv, ⟨b00, b01, b02⟩, ⟨b10, b11, b12⟩, ⟨b40, b41, b42⟩⟩)
      | (go_at_call 83; (with_reducible refine (y3.out _ (by first | assumption | exact Hid.out (by assumption))).mono ?_); rintro r v ⟨rfl, hv, ⟨b00, b01, b02⟩, ⟨b10, b11, b12⟩, ⟨b40, b41, b42⟩⟩)
      | (go_at_call 83; (with_reducible refine (y4.out _ (by first | assumption | exact Hid.out (by assumption))).mono ?_); rintro r v ⟨rfl, hv, ⟨b00, b01, b02⟩, ⟨b10, b11, b12⟩, ⟨b40, b41, b42⟩⟩)
      | (go_at_call 83; (with_reducible refine (y5.out _ (by first | assumption | exact Hid.out (by assumption))).mono ?_); rintro r v ⟨rfl, hv, ⟨b00, b01, b02⟩, ⟨b10, b11, b12⟩, ⟨b40, b41, b42⟩⟩))
  have f0 := HB.out.trans (hv.out.mono HB.out.size)
  clear b00 b01 b02 b10 b11 b12 b40 b41 b42
  go_wp2_with fail
  (with_reducible refine (cC1.out _).mono ?_); rintro e z1 ⟨rfl, g1⟩
  have f1 := f0.trans (g1.mono f0.size)
  clear g1 f0
  go_wp2_with fail
  (with_reducible refine (CN.out _).mono ?_); rintro e z2 ⟨rfl, g1⟩
  have f2 := f1.trans (g1.mono f1.size)
  clear g1 f1
  go_wp2_with fail
  (with_reducible refine (cM1.out _).mono ?_); rintro e z3 ⟨rfl, g1⟩
  have f3 := f2.trans (g1.mono f2.size)
  clear g1 f2
  go_wp2_with fail
  (with_reducible refine (cM2.out _).mono ?_); rintro e z4 ⟨rfl, g1⟩
  have f4 := f3.trans (g1.mono f3.size)
  clear g1 f3
  go_wp2_with fail
  (with_reducible refine (cM3.out _).mono ?_); rintro e z5 ⟨rfl, g1⟩
  have f5 := f4.trans (g1.mono f4.size)
  clear g1 f4
  go_wp2_with fail
  (with_reducible refine (cK1.out _).mono ?_); rintro e z6 ⟨rfl, g1⟩
  have f6 := f5.trans (g1.mono f5.size)
  clear g1 f5
  go_wp2_with fail
  (with_reducible refine (cK2.out _).mono ?_); rintro e z7 ⟨rfl, g1⟩
  have f7 := f6.trans (g1.mono f6.size)
  clear g1 f6
  go_wp2_with fail
  (with_reducible refine (cH1.out _).mono ?_); rintro e z8 ⟨rfl, g1⟩
  have f8 := f7.trans (g1.mono f7.size)
  clear g1 f7
  go_wp2_with fail
  (with_reducible refine (cH2.out _).mono ?_); rintro e z9 ⟨rfl, g1⟩
  have f9 := f8.trans (g1.mono f8.size)
  clear g1 f8
  go_wp2_with fail
  (with_reducible refine (cH3.out _).mono ?_); rintro e z10 ⟨rfl, g1⟩
  have f10 := f9.trans (g1.mono f9.size)
  clear g1 f9
  go_wp2_with fail
  (with_reducible refine (AW.out _).mono ?_); rintro e z11 ⟨rfl, g1⟩
  have f11 := f10.trans (g1.mono f10.size)
  clear g1 f10
  go_wp2_with fail
  go_ret
  exact ⟨rfl, f11⟩
end Go.Proofs.YtepemdmjbfoiaaaDoor
