/-
  May and Keep, of the program and of the reference.
-/
import Derived.Test.YtepemdmjbfoiaaaDoorPe8
import Derived.Test.YtepemdmjbfoiaaaDoorPe7
import Derived.Test.YtepemdmjbfoiaaaDoorAp
namespace Go.Proofs.YtepemdmjbfoiaaaDoor
open Go.RowKit

def mayF (l : Lk) (k : Nat) : Bool := stE l ((k : Int), (if k = 2 ∨ k = 3 then 400 else 0), false) == 0
/-- the kinds up to k that are not refused -/
def mayL (l : Lk) : Nat → List Nat
  | 0 => []
  | k + 1 => mayL l k ++ (if mayF l (k + 1) = true then [k + 1] else [])
theorem mayL_len (l : Lk) (k : Nat) : (mayL l k).length ≤ k := by
  induction k with
  | zero => simp [mayL]
  | succ k ih => rw [mayL, List.length_append]; split <;> simp <;> omega
theorem mayL_yes {l : Lk} {k : Nat} (h : mayF l (k + 1) = true) : mayL l (k + 1) = mayL l k ++ [k + 1] := by rw [mayL, if_pos h]
theorem mayL_no {l : Lk} {k : Nat} (h : mayF l (k + 1) = false) : mayL l (k + 1) = mayL l k := by rw [mayL, if_neg (by simp [h]), List.append_nil]
def mayV (l : Lk) : List Nat × Nat := if ckL l ≠ 0 then ([], ckL l) else (mayL l 4, 0)
def MayPost (t : List Nat × Nat) (w : World) (e : Ending) (w' : World) : Prop := ∃ A cap, e = .returned (.tuple #[.slice A t.1.length cap, .int .i64 t.2]) ∧ t.1.length ≤ cap ∧ Reads w' w'.heap.size 1 A t.1.length (ints t.1) ∧ Below w.heap.size w w'
theorem own_capA' {base e size n : Nat} {W : World} {A : Option Addr} {cap : Nat} {xs : List Value} (ho : W.ownsRow base e size (.slice A n cap) n xs) : n ≤ cap := by
  rcases ho.2 with ⟨h0, h1⟩ | ⟨g, c, cur, h0, _, _, h1, _⟩
  · omega
  · injection h0 with _ _ h2; omega
theorem fit23 (l : Lk) : stE l (3, 400, false) = stE l (3, 200, false) := by
  unfold stE stepE
  rw [show fitL (3, 400, false).1 (3, 400, false).2.1 (3, 400, false).2.2 = 0 by decide, show fitL (3, 200, false).1 (3, 200, false).2.1 (3, 200, false).2.2 = 0 by decide]

set_option maxRecDepth 100000 in
set_option maxHeartbeats 8000000 in
theorem pMay (l : Lk) (w : World) : Calls Tryd.prog 78 #[.agg #[.int .i64 l.1, .bool l.2.1, .int .i64 l.2.2.1, .int .i64 l.2.2.2]] w (MayPost (mayV l) w) := by
  obtain ⟨s, a, m, d⟩ := l
  have cC := fun w => pCheck s a m d w
  obtain ⟨C, hC⟩ : ∃ C, chkL s a m d = C := ⟨_, rfl⟩
  have hV : mayV (s, a, m, d) = if C ≠ 0 then ([], C) else (mayL (s, a, m, d) 4, 0) := by rw [← hC]; rfl
  rw [hV]
  rw [hC] at cC
  unfold linkV at cC
  have CC := Lib.hid cC
  have CS := Lib.hid (fun k cd cl w => pStep s a m d k cd cl w)
  clear cC hC hV
  simp only
  by_cases h0 : C ≠ 0
  · rw [if_pos h0]
    have e2 : ((C : Int) != 0) = true := by rw [bne_iff_ne]; omega
    go_enter Tryd.func78, Tryd.ntmps78
    go_wp2_with fail
    (with_reducible refine (CC.out _).mono ?_); rintro e w1 ⟨rfl, g1⟩
    go_wp2_with fail
    go_ret2
    exact ⟨none, 0, rfl, Nat.zero_le _, Reads.none_, ((Below.refl _ _).alloc (Nat.le_refl _) _).trans (g1.mono (by simp))⟩
  · have hC0 : C = 0 := by omega
    subst hC0
    rw [if_neg (by simp)]
    clear h0
    go_enter Tryd.func78, Tryd.ntmps78
    go_wp2_with fail
    (with_reducible refine (CC.out _).mono ?_); rintro e w1 ⟨rfl, g1⟩
    have kL : Blk w1 w.heap.size 76 #[.int .i64 s, .bool a, .int .i64 m, .int .i64 d] := Blk.below (Blk.new w _ _) g1 (by simp)
    have hbX := ((Below.refl w.heap.size w).alloc (Nat.le_refl _) (.cells #[.int .i64 s, .bool a, .int .i64 m, .int .i64 d] 76)).trans (g1.mono (by simp))
    have HB := Lib.hid (And.intro kL hbX)
    clear kL g1 hbX
    go_wp2_with fail
    go_loopw [5, 6] (fun o i wr => ∃ (j : Nat) (iv : Int), i = .int .i64 iv ∧ iv = (j : Int) + 1 ∧ j ≤ 4 ∧ Hid (wr.ownsRow (w.heap.size + 1) 3 1 o (mayL (s, a, m, d) j).length (ints (mayL (s, a, m, d) j)) ∧ Blk wr w.heap.size 76 #[.int .i64 s, .bool a, .int .i64 m, .int .i64 d] ∧ Below w.heap.size w wr)) (fun _ i _ => 5 - (intOf i).toNat)
    case atStart => exact ⟨0, 1, rfl, rfl, by omega, hide ⟨World.ownsRow_nil _ _ _ _, HB.out⟩⟩
    case round =>
      obtain ⟨j, iv, rfl, hiv, hj, HO⟩ := hrel
      rename World => W0
      obtain rfl | rfl | rfl | rfl | rfl : j = 0 ∨ j = 1 ∨ j = 2 ∨ j = 3 ∨ j = 4 := by omega
      · obtain rfl : iv = 1 := by omega
        clear hiv hj
        obtain ⟨hO, kL, hb⟩ := HO.out
        have kL1 := kL.alloc (.cells #[.int .i64 1, .int .i64 0, .bool false] 81)
        have b0 : (W0.alloc (.cells #[.int .i64 1, .int .i64 0, .bool false] 81)).cell? ⟨w.heap.size, 0, none⟩ = some (.int .i64 s) := kL1.cell 0
        have b1 : (W0.alloc (.cells #[.int .i64 1, .int .i64 0, .bool false] 81)).cell? ⟨w.heap.size, 1, none⟩ = some (.bool a) := kL1.cell 1
        have b2 : (W0.alloc (.cells #[.int .i64 1, .int .i64 0, .bool false] 81)).cell? ⟨w.heap.size, 2, none⟩ = some (.int .i64 m) := kL1.cell 2
        have b3 : (W0.alloc (.cells #[.int .i64 1, .int .i64 0, .bool false] 81)).cell? ⟨w.heap.size, 3, none⟩ = some (.int .i64 d) := kL1.cell 3
        have cS := fun w => CS.out 1 0 false w
        obtain ⟨E, hE⟩ : ∃ E, stepE s a m d 1 0 false = E := ⟨_, rfl⟩
        obtain ⟨N, hN⟩ : ∃ N, stepL s a m d 1 0 false = N := ⟨_, rfl⟩
        rw [hE, hN] at cS
        obtain ⟨s2, a2, m2, d2⟩ := N
        unfold lkV linkV evV at cS
        have CS1 := Lib.hid cS
        have hlen := mayL_len (s, a, m, d) 0
        have HF := Lib.hid (show mayF (s, a, m, d) 1 = (E == 0) by rw [← hE]; rfl)
        have HI := Lib.hid (And.intro hO (And.intro kL hb))
        clear cS hE hN hO kL hb kL1
        go_wp2_with fail
        (with_reducible refine (CS1.out _).mono ?_); rintro e w2 ⟨rfl, g2⟩
        obtain ⟨hO, kL, hb⟩ := HI.out
        have hba : Below W0.heap.size W0 (w2.alloc (.cells #[.int .i64 s2, .bool a2, .int .i64 m2, .int .i64 d2] 76)) := (((Below.refl _ _).alloc (Nat.le_refl _) _).trans (g2.mono (by simp))).alloc (Nat.le_trans ((Below.refl W0.heap.size W0).alloc (Nat.le_refl _) _).size g2.size) _
        obtain ⟨W2, hW2⟩ : ∃ W2, w2.alloc (.cells #[.int .i64 s2, .bool a2, .int .i64 m2, .int .i64 d2] 76) = W2 := ⟨_, rfl⟩
        rw [hW2] at hba
        have kL2 := kL.below hba kL.lt
        have hb2 := hb.trans (hba.mono hb.size)
        clear b0 b1 b2 b3 g2
        by_cases hE0 : E = 0
        · have hbase := kL2.lt
          obtain ⟨v', w5, hrun, hown, hb5, _⟩ := app_int (own_below hO hba) (show w.heap.size + 1 ≤ W2.heap.size from hbase) (by omega) 1
          have HQ := Lib.hid (And.intro hown (And.intro (kL2.below hb5 (Nat.lt_succ_self _)) (hb2.trans (hb5.mono (Nat.le_succ _)))))
          rw [← hW2] at hrun
          simp only [World.size_alloc] at hrun
          have HRUN := Lib.hid hrun
          have hF : mayF (s, a, m, d) 1 = true := by rw [HF.out, hE0]; rfl
          have HFF := Lib.hid hF
          subst hE0
          clear hrun hown hb5 hF hba kL2 hb2 hO kL hb hW2
          go_wp2_with (at_builtin; refine wpList_append_run HRUN.out rfl _ _ rfl rfl rfl rfl ?_)
          go_roundw
          case rel => exact ⟨1, _, rfl, by omega, by omega, hide (by rw [mayL_yes HFF.out]; exact HQ.out)⟩
          case measure => simp [intOf]
        · have e2 : ((E : Int) == 0) = false := beq_eq_false_iff_ne.2 (by omega)
          have hF : mayF (s, a, m, d) 1 = false := by rw [HF.out]; simpa using hE0
          have HQ := Lib.hid (And.intro hF (And.intro (own_below hO hba) (And.intro kL2 hb2)))
          clear hba kL2 hb2 hO kL hb hF
          go_wp2_with fail
          go_roundw
          case rel => exact ⟨1, _, rfl, by omega, by omega, hide (by rw [mayL_no HQ.out.1]; exact HQ.out.2)⟩
          case measure => simp [intOf]
      · obtain rfl : iv = 2 := by omega
        clear hiv hj
        obtain ⟨hO, kL, hb⟩ := HO.out
        have kL1 := kL.alloc (.cells #[.int .i64 2, .int .i64 400, .bool false] 81)
        have b0 : (W0.alloc (.cells #[.int .i64 2, .int .i64 400, .bool false] 81)).cell? ⟨w.heap.size, 0, none⟩ = some (.int .i64 s) := kL1.cell 0
        have b1 : (W0.alloc (.cells #[.int .i64 2, .int .i64 400, .bool false] 81)).cell? ⟨w.heap.size, 1, none⟩ = some (.bool a) := kL1.cell 1
        have b2 : (W0.alloc (.cells #[.int .i64 2, .int .i64 400, .bool false] 81)).cell? ⟨w.heap.size, 2, none⟩ = some (.int .i64 m) := kL1.cell 2
        have b3 : (W0.alloc (.cells #[.int .i64 2, .int .i64 400, .bool false] 81)).cell? ⟨w.heap.size, 3, none⟩ = some (.int .i64 d) := kL1.cell 3
        have cS := fun w => CS.out 2 400 false w
        obtain ⟨E, hE⟩ : ∃ E, stepE s a m d 2 400 false = E := ⟨_, rfl⟩
        obtain ⟨N, hN⟩ : ∃ N, stepL s a m d 2 400 false = N := ⟨_, rfl⟩
        rw [hE, hN] at cS
        obtain ⟨s2, a2, m2, d2⟩ := N
        unfold lkV linkV evV at cS
        have CS1 := Lib.hid cS
        have hlen := mayL_len (s, a, m, d) 1
        have HF := Lib.hid (show mayF (s, a, m, d) 2 = (E == 0) by rw [← hE]; rfl)
        have HI := Lib.hid (And.intro hO (And.intro kL hb))
        clear cS hE hN hO kL hb kL1
        go_wp2_with fail
        (with_reducible refine (CS1.out _).mono ?_); rintro e w2 ⟨rfl, g2⟩
        obtain ⟨hO, kL, hb⟩ := HI.out
        have hba : Below W0.heap.size W0 (w2.alloc (.cells #[.int .i64 s2, .bool a2, .int .i64 m2, .int .i64 d2] 76)) := (((Below.refl _ _).alloc (Nat.le_refl _) _).trans (g2.mono (by simp))).alloc (Nat.le_trans ((Below.refl W0.heap.size W0).alloc (Nat.le_refl _) _).size g2.size) _
        obtain ⟨W2, hW2⟩ : ∃ W2, w2.alloc (.cells #[.int .i64 s2, .bool a2, .int .i64 m2, .int .i64 d2] 76) = W2 := ⟨_, rfl⟩
        rw [hW2] at hba
        have kL2 := kL.below hba kL.lt
        have hb2 := hb.trans (hba.mono hb.size)
        clear b0 b1 b2 b3 g2
        by_cases hE0 : E = 0
        · have hbase := kL2.lt
          obtain ⟨v', w5, hrun, hown, hb5, _⟩ := app_int (own_below hO hba) (show w.heap.size + 1 ≤ W2.heap.size from hbase) (by omega) 2
          have HQ := Lib.hid (And.intro hown (And.intro (kL2.below hb5 (Nat.lt_succ_self _)) (hb2.trans (hb5.mono (Nat.le_succ _)))))
          rw [← hW2] at hrun
          simp only [World.size_alloc] at hrun
          have HRUN := Lib.hid hrun
          have hF : mayF (s, a, m, d) 2 = true := by rw [HF.out, hE0]; rfl
          have HFF := Lib.hid hF
          subst hE0
          clear hrun hown hb5 hF hba kL2 hb2 hO kL hb hW2
          go_wp2_with (at_builtin; refine wpList_append_run HRUN.out rfl _ _ rfl rfl rfl rfl ?_)
          go_roundw
          case rel => exact ⟨2, _, rfl, by omega, by omega, hide (by rw [mayL_yes HFF.out]; exact HQ.out)⟩
          case measure => simp [intOf]
        · have e2 : ((E : Int) == 0) = false := beq_eq_false_iff_ne.2 (by omega)
          have hF : mayF (s, a, m, d) 2 = false := by rw [HF.out]; simpa using hE0
          have HQ := Lib.hid (And.intro hF (And.intro (own_below hO hba) (And.intro kL2 hb2)))
          clear hba kL2 hb2 hO kL hb hF
          go_wp2_with fail
          go_roundw
          case rel => exact ⟨2, _, rfl, by omega, by omega, hide (by rw [mayL_no HQ.out.1]; exact HQ.out.2)⟩
          case measure => simp [intOf]
      · obtain rfl : iv = 3 := by omega
        clear hiv hj
        obtain ⟨hO, kL, hb⟩ := HO.out
        have kL1 := kL.alloc (.cells #[.int .i64 3, .int .i64 400, .bool false] 81)
        have b0 : (W0.alloc (.cells #[.int .i64 3, .int .i64 400, .bool false] 81)).cell? ⟨w.heap.size, 0, none⟩ = some (.int .i64 s) := kL1.cell 0
        have b1 : (W0.alloc (.cells #[.int .i64 3, .int .i64 400, .bool false] 81)).cell? ⟨w.heap.size, 1, none⟩ = some (.bool a) := kL1.cell 1
        have b2 : (W0.alloc (.cells #[.int .i64 3, .int .i64 400, .bool false] 81)).cell? ⟨w.heap.size, 2, none⟩ = some (.int .i64 m) := kL1.cell 2
        have b3 : (W0.alloc (.cells #[.int .i64 3, .int .i64 400, .bool false] 81)).cell? ⟨w.heap.size, 3, none⟩ = some (.int .i64 d) := kL1.cell 3
        have cS := fun w => CS.out 3 400 false w
        obtain ⟨E, hE⟩ : ∃ E, stepE s a m d 3 400 false = E := ⟨_, rfl⟩
        obtain ⟨N, hN⟩ : ∃ N, stepL s a m d 3 400 false = N := ⟨_, rfl⟩
        rw [hE, hN] at cS
        obtain ⟨s2, a2, m2, d2⟩ := N
        unfold lkV linkV evV at cS
        have CS1 := Lib.hid cS
        have hlen := mayL_len (s, a, m, d) 2
        have HF := Lib.hid (show mayF (s, a, m, d) 3 = (E == 0) by rw [← hE]; rfl)
        have HI := Lib.hid (And.intro hO (And.intro kL hb))
        clear cS hE hN hO kL hb kL1
        go_wp2_with fail
        (with_reducible refine (CS1.out _).mono ?_); rintro e w2 ⟨rfl, g2⟩
        obtain ⟨hO, kL, hb⟩ := HI.out
        have hba : Below W0.heap.size W0 (w2.alloc (.cells #[.int .i64 s2, .bool a2, .int .i64 m2, .int .i64 d2] 76)) := (((Below.refl _ _).alloc (Nat.le_refl _) _).trans (g2.mono (by simp))).alloc (Nat.le_trans ((Below.refl W0.heap.size W0).alloc (Nat.le_refl _) _).size g2.size) _
        obtain ⟨W2, hW2⟩ : ∃ W2, w2.alloc (.cells #[.int .i64 s2, .bool a2, .int .i64 m2, .int .i64 d2] 76) = W2 := ⟨_, rfl⟩
        rw [hW2] at hba
        have kL2 := kL.below hba kL.lt
        have hb2 := hb.trans (hba.mono hb.size)
        clear b0 b1 b2 b3 g2
        by_cases hE0 : E = 0
        · have hbase := kL2.lt
          obtain ⟨v', w5, hrun, hown, hb5, _⟩ := app_int (own_below hO hba) (show w.heap.size + 1 ≤ W2.heap.size from hbase) (by omega) 3
          have HQ := Lib.hid (And.intro hown (And.intro (kL2.below hb5 (Nat.lt_succ_self _)) (hb2.trans (hb5.mono (Nat.le_succ _)))))
          rw [← hW2] at hrun
          simp only [World.size_alloc] at hrun
          have HRUN := Lib.hid hrun
          have hF : mayF (s, a, m, d) 3 = true := by rw [HF.out, hE0]; rfl
          have HFF := Lib.hid hF
          subst hE0
          clear hrun hown hb5 hF hba kL2 hb2 hO kL hb hW2
          go_wp2_with (at_builtin; refine wpList_append_run HRUN.out rfl _ _ rfl rfl rfl rfl ?_)
          go_roundw
          case rel => exact ⟨3, _, rfl, by omega, by omega, hide (by rw [mayL_yes HFF.out]; exact HQ.out)⟩
          case measure => simp [intOf]
        · have e2 : ((E : Int) == 0) = false := beq_eq_false_iff_ne.2 (by omega)
          have hF : mayF (s, a, m, d) 3 = false := by rw [HF.out]; simpa using hE0
          have HQ := Lib.hid (And.intro hF (And.intro (own_below hO hba) (And.intro kL2 hb2)))
          clear hba kL2 hb2 hO kL hb hF
          go_wp2_with fail
          go_roundw
          case rel => exact ⟨3, _, rfl, by omega, by omega, hide (by rw [mayL_no HQ.out.1]; exact HQ.out.2)⟩
          case measure => simp [intOf]
      · obtain rfl : iv = 4 := by omega
        clear hiv hj
        obtain ⟨hO, kL, hb⟩ := HO.out
        have kL1 := kL.alloc (.cells #[.int .i64 4, .int .i64 0, .bool false] 81)
        have b0 : (W0.alloc (.cells #[.int .i64 4, .int .i64 0, .bool false] 81)).cell? ⟨w.heap.size, 0, none⟩ = some (.int .i64 s) := kL1.cell 0
        have b1 : (W0.alloc (.cells #[.int .i64 4, .int .i64 0, .bool false] 81)).cell? ⟨w.heap.size, 1, none⟩ = some (.bool a) := kL1.cell 1
        have b2 : (W0.alloc (.cells #[.int .i64 4, .int .i64 0, .bool false] 81)).cell? ⟨w.heap.size, 2, none⟩ = some (.int .i64 m) := kL1.cell 2
        have b3 : (W0.alloc (.cells #[.int .i64 4, .int .i64 0, .bool false] 81)).cell? ⟨w.heap.size, 3, none⟩ = some (.int .i64 d) := kL1.cell 3
        have cS := fun w => CS.out 4 0 false w
        obtain ⟨E, hE⟩ : ∃ E, stepE s a m d 4 0 false = E := ⟨_, rfl⟩
        obtain ⟨N, hN⟩ : ∃ N, stepL s a m d 4 0 false = N := ⟨_, rfl⟩
        rw [hE, hN] at cS
        obtain ⟨s2, a2, m2, d2⟩ := N
        unfold lkV linkV evV at cS
        have CS1 := Lib.hid cS
        have hlen := mayL_len (s, a, m, d) 3
        have HF := Lib.hid (show mayF (s, a, m, d) 4 = (E == 0) by rw [← hE]; rfl)
        have HI := Lib.hid (And.intro hO (And.intro kL hb))
        clear cS hE hN hO kL hb kL1
        go_wp2_with fail
        (with_reducible refine (CS1.out _).mono ?_); rintro e w2 ⟨rfl, g2⟩
        obtain ⟨hO, kL, hb⟩ := HI.out
        have hba : Below W0.heap.size W0 (w2.alloc (.cells #[.int .i64 s2, .bool a2, .int .i64 m2, .int .i64 d2] 76)) := (((Below.refl _ _).alloc (Nat.le_refl _) _).trans (g2.mono (by simp))).alloc (Nat.le_trans ((Below.refl W0.heap.size W0).alloc (Nat.le_refl _) _).size g2.size) _
        obtain ⟨W2, hW2⟩ : ∃ W2, w2.alloc (.cells #[.int .i64 s2, .bool a2, .int .i64 m2, .int .i64 d2] 76) = W2 := ⟨_, rfl⟩
        rw [hW2] at hba
        have kL2 := kL.below hba kL.lt
        have hb2 := hb.trans (hba.mono hb.size)
        clear b0 b1 b2 b3 g2
        by_cases hE0 : E = 0
        · have hbase := kL2.lt
          obtain ⟨v', w5, hrun, hown, hb5, _⟩ := app_int (own_below hO hba) (show w.heap.size + 1 ≤ W2.heap.size from hbase) (by omega) 4
          have HQ := Lib.hid (And.intro hown (And.intro (kL2.below hb5 (Nat.lt_succ_self _)) (hb2.trans (hb5.mono (Nat.le_succ _)))))
          rw [← hW2] at hrun
          simp only [World.size_alloc] at hrun
          have HRUN := Lib.hid hrun
          have hF : mayF (s, a, m, d) 4 = true := by rw [HF.out, hE0]; rfl
          have HFF := Lib.hid hF
          subst hE0
          clear hrun hown hb5 hF hba kL2 hb2 hO kL hb hW2
          go_wp2_with (at_builtin; refine wpList_append_run HRUN.out rfl _ _ rfl rfl rfl rfl ?_)
          go_roundw
          case rel => exact ⟨4, _, rfl, by omega, by omega, hide (by rw [mayL_yes HFF.out]; exact HQ.out)⟩
          case measure => simp [intOf]
        · have e2 : ((E : Int) == 0) = false := beq_eq_false_iff_ne.2 (by omega)
          have hF : mayF (s, a, m, d) 4 = false := by rw [HF.out]; simpa using hE0
          have HQ := Lib.hid (And.intro hF (And.intro (own_below hO hba) (And.intro kL2 hb2)))
          clear hba kL2 hb2 hO kL hb hF
          go_wp2_with fail
          go_roundw
          case rel => exact ⟨4, _, rfl, by omega, by omega, hide (by rw [mayL_no HQ.out.1]; exact HQ.out.2)⟩
          case measure => simp [intOf]
      · obtain rfl : iv = 5 := by omega
        clear hiv hj
        obtain ⟨hO, kL, hb⟩ := HO.out
        obtain ⟨A', cap, rfl⟩ := own_slice hO
        have HQ := Lib.hid (And.intro hO hb)
        clear hO kL hb
        go_wp2_with fail
        go_ret2
        exact ⟨A', cap, rfl, own_capA' HQ.out.1, Reads.of_own HQ.out.1, HQ.out.2⟩
end Go.Proofs.YtepemdmjbfoiaaaDoor
