/-
  reqline: wrong, Parse, Text.
-/
import Derived.Test.YtencphfhpnljlaaGreatDoorRq4
namespace Go.Proofs.YtencphfhpnljlaaGreatDoor
open Go.RowKit

/-- whether a line is not the beginning of a request line: by where each part is wrong first, and its length -/
def wrongQ (a0 l0 a1 l1 a2 l2 n : Nat) : Bool :=
  if a0 < l0 then true else if 1 < n ∧ a0 = 0 then true else if n = 1 then false else if a1 < l1 then true else if 2 < n ∧ a1 = 0 then true else if n = 2 then false else decide (a2 < l2)
def WrongPost (b : Bool) (w : World) (e : Ending) (w' : World) : Prop := ∃ r : Int, e = .returned (.int .i64 r) ∧ decide (0 ≤ r) = b ∧ Below w.heap.size w w'
theorem wrong_fn (a b c : ByteArray) (n : Int) (w : World) : (Instr.index 211 (.agg #[.func (.func 145) #[.agg #[.string a, .string b, .string c, .int .i64 n]] #[], .func (.func 62) #[.agg #[.string a, .string b, .string c, .int .i64 n]] #[], .func (.func 146) #[.agg #[.string a, .string b, .string c, .int .i64 n]] #[]]) (.int .i64 0)).run Tryz.prog w = .ok (.func (.func 145) #[.agg #[.string a, .string b, .string c, .int .i64 n]] #[]) w ∧
    (Instr.index 211 (.agg #[.func (.func 145) #[.agg #[.string a, .string b, .string c, .int .i64 n]] #[], .func (.func 62) #[.agg #[.string a, .string b, .string c, .int .i64 n]] #[], .func (.func 146) #[.agg #[.string a, .string b, .string c, .int .i64 n]] #[]]) (.int .i64 1)).run Tryz.prog w = .ok (.func (.func 62) #[.agg #[.string a, .string b, .string c, .int .i64 n]] #[]) w ∧
    (Instr.index 211 (.agg #[.func (.func 145) #[.agg #[.string a, .string b, .string c, .int .i64 n]] #[], .func (.func 62) #[.agg #[.string a, .string b, .string c, .int .i64 n]] #[], .func (.func 146) #[.agg #[.string a, .string b, .string c, .int .i64 n]] #[]]) (.int .i64 2)).run Tryz.prog w = .ok (.func (.func 146) #[.agg #[.string a, .string b, .string c, .int .i64 n]] #[]) w :=
  ⟨by kernel_rfl, by kernel_rfl, by kernel_rfl⟩
set_option maxRecDepth 100000 in
set_option maxHeartbeats 8000000 in
theorem pWrong (a b c : ByteArray) (n : Nat) (w : World) (ha : a.size ≤ 1000000) (hb : b.size ≤ 1000000) (hc : c.size ≤ 1000000) (hn : 1 ≤ n) (hn3 : n ≤ 3) :
    Calls Tryz.prog 114 #[.agg #[.string a, .string b, .string c, .int .i64 n]] w (WrongPost (wrongQ (methN a.data.toList) a.size (tgtN b.data.toList) b.size (verN c.data.toList verS) c.size n) w) := by
  have b0 : Below w.heap.size w (w.alloc (.cells #[.string a, .string b, .string c, .int .i64 (n : Int)] 122)) := (Below.refl _ _).alloc (Nat.le_refl _) _
  have k0 := Blk.new w 122 #[.string a, .string b, .string c, .int .i64 (n : Int)]
  have ix := wrong_fn a b c (n : Int)
  have C0 := Lib.hid (fun X => pMethC a b c (n : Int) X ha)
  have C1 := Lib.hid (fun X => pTgtC a b c (n : Int) X hb)
  have C2 := Lib.hid (fun X => pVerC a b c (n : Int) X hc)
  have CF := Lib.hid (fun i j hj hi X => pFrom a b c (n : Int) i j hj hi X ha hb)
  have q0 : methN a.data.toList ≤ a.size := by rw [← size_l]; exact (takeWhile_len _ _).1
  have q1 : tgtN b.data.toList ≤ b.size := by
    unfold tgtN; rw [← size_l]; split
    · exact (takeWhile_len _ _).1
    · exact Nat.zero_le _
  have q2 : verN c.data.toList verS ≤ c.size := by rw [← size_l]; exact verN_le _ _
  generalize methN a.data.toList = x0 at *
  generalize tgtN b.data.toList = x1 at *
  generalize verN c.data.toList verS = x2 at *
  have K0 := Lib.hid (And.intro b0 k0)
  obtain ⟨R, hR⟩ : ∃ R, wrongQ x0 a.size x1 b.size x2 c.size n = R := ⟨_, rfl⟩
  rw [hR]
  unfold wrongQ at hR
  have HR := Lib.hid hR
  have ix0 := fun X => (ix X).1
  have ix1 := fun X => (ix X).2.1
  have ix2 := fun X => (ix X).2.2
  have c00 : (w.alloc (.cells #[.string a, .string b, .string c, .int .i64 (n : Int)] 122)).cell? ⟨w.heap.size, 0, none⟩ = some (.string a) := k0.cell 0
  have c01 : (w.alloc (.cells #[.string a, .string b, .string c, .int .i64 (n : Int)] 122)).cell? ⟨w.heap.size, 1, none⟩ = some (.string b) := k0.cell 1
  have c02 : (w.alloc (.cells #[.string a, .string b, .string c, .int .i64 (n : Int)] 122)).cell? ⟨w.heap.size, 2, none⟩ = some (.string c) := k0.cell 2
  have c03 : (w.alloc (.cells #[.string a, .string b, .string c, .int .i64 (n : Int)] 122)).cell? ⟨w.heap.size, 3, none⟩ = some (.int .i64 (n : Int)) := k0.cell 3
  clear b0 k0 hR ix
  go_enter Tryz.func114, Tryz.ntmps114
  go_wp2_with fail
  generalize w.alloc (.cells #[.string a, .string b, .string c, .int .i64 (n : Int)] 122) = W0 at *
  clear c00 c01 c02 c03
  go_loopw [13] (fun j wr => (j = .int .i64 0 ∨ (j = .int .i64 1 ∧ ¬ x0 < a.size ∧ ¬ (1 < n ∧ x0 = 0) ∧ n ≠ 1) ∨ (j = .int .i64 2 ∧ ¬ x0 < a.size ∧ ¬ (1 < n ∧ x0 = 0) ∧ n ≠ 1 ∧ ¬ x1 < b.size ∧ ¬ (2 < n ∧ x1 = 0) ∧ n ≠ 2)) ∧ Hid (Below w.heap.size w wr) ∧ Hid (Blk wr w.heap.size 122 #[.string a, .string b, .string c, .int .i64 (n : Int)])) (fun j _ => 3 - (intOf j).toNat)
  case atStart => exact ⟨.inl rfl, hide K0.out.1, hide K0.out.2⟩
  case round =>
    obtain ⟨hrel, hB, hK⟩ := hrel
    rename World => wr
    rcases hrel with rfl | ⟨rfl, h1, h2, h3⟩ | ⟨rfl, h1, h2, h3, h4, h5, h6⟩
    · have CM := Lib.hid (C0.out wr)
      go_wp2_with fail
      (with_reducible refine (CM.out).mono ?_); rintro e w1 ⟨rfl, g1⟩
      have h1' := hB.out.trans (g1.mono hB.out.size)
      have k1 := hK.out.below g1 hK.out.lt
      have p0 : w1.cell? ⟨w.heap.size, 0, none⟩ = some (.string a) := k1.cell 0
      have p1 : w1.cell? ⟨w.heap.size, 1, none⟩ = some (.string b) := k1.cell 1
      have p2 : w1.cell? ⟨w.heap.size, 2, none⟩ = some (.string c) := k1.cell 2
      have p3 : w1.cell? ⟨w.heap.size, 3, none⟩ = some (.int .i64 (n : Int)) := k1.cell 3
      have HB1 := Lib.hid (And.intro h1' k1)
      have CFx := Lib.hid (CF.out 0 0 rfl (by omega) w1)
      clear h1' k1 g1 CM
      by_cases z1 : x0 < a.size
      · have i1 : (x0 : Int) < (a.size : Int) := by omega
        have hRt : R = true := by rw [← HR.out, if_pos z1]
        have HRT := Lib.hid hRt
        clear hRt
        go_wp2_with fail
        (with_reducible refine (CFx.out).mono ?_); rintro e w2 ⟨r, rfl, hr, g2⟩
        have wr2 : IntKind.i64.wrap ((r : Int) + (x0 : Int)) = (r : Int) + (x0 : Int) := by rw [IntKind.wrap_i64]; omega
        go_wp2_with fail
        go_ret
        exact ⟨_, rfl, by rw [HRT.out]; simp; omega, HB1.out.1.trans (g2.mono HB1.out.1.size)⟩
      · have i1 : ¬ (x0 : Int) < (a.size : Int) := by omega
        by_cases z2 : 1 < n ∧ x0 = 0
        · have i2 : (1 : Int) < (n : Int) := by omega
          have i3 : ((x0 : Int) == 0) = true := by rw [beq_iff_eq]; omega
          have d2 : decide ((1 : Int) < (n : Int)) = true := by simp; omega
          have HRT := Lib.hid (show R = true by rw [← HR.out, if_neg z1, if_pos z2])
          clear z2
          go_wp2_with fail
          (with_reducible refine (CFx.out).mono ?_); rintro e w2 ⟨r, rfl, hr, g2⟩
          go_wp2_with fail
          go_ret
          exact ⟨_, rfl, by rw [HRT.out]; simp, HB1.out.1.trans (g2.mono HB1.out.1.size)⟩
        · have Z2 := Lib.hid z2
          by_cases z3 : n = 1
          · have i2 : ¬ (1 : Int) < (n : Int) := by omega
            have d2 : decide ((1 : Int) < (n : Int)) = false := by simp; omega
            have i4 : ((1 : Int) == (n : Int)) = true := by rw [beq_iff_eq]; omega
            have HRT := Lib.hid (show R = false by rw [← HR.out, if_neg z1, if_neg z2, if_pos z3])
            clear z2 z3
            go_wp2_with fail
            go_ret
            exact ⟨_, rfl, by rw [HRT.out]; decide, HB1.out.1⟩
          · have i2 : (1 : Int) < (n : Int) := by omega
            have d2 : decide ((1 : Int) < (n : Int)) = true := by simp; omega
            have i3 : ((x0 : Int) == 0) = false := by rw [beq_eq_false_iff_ne]; omega
            have i4 : ((1 : Int) == (n : Int)) = false := by rw [beq_eq_false_iff_ne]; omega
            have HZ := Lib.hid (And.intro z1 (And.intro z2 z3))
            clear z2 z3
            go_wp2_with fail
            go_roundw
            case rel => exact ⟨.inr (.inl ⟨rfl, HZ.out.1, HZ.out.2.1, HZ.out.2.2⟩), hide HB1.out.1, hide HB1.out.2⟩
            case measure => simp [intOf]
    · have CM := Lib.hid (C1.out wr)
      go_wp2_with fail
      (with_reducible refine (CM.out).mono ?_); rintro e w1 ⟨rfl, g1⟩
      have h1' := hB.out.trans (g1.mono hB.out.size)
      have k1 := hK.out.below g1 hK.out.lt
      have p0 : w1.cell? ⟨w.heap.size, 0, none⟩ = some (.string a) := k1.cell 0
      have p1 : w1.cell? ⟨w.heap.size, 1, none⟩ = some (.string b) := k1.cell 1
      have p2 : w1.cell? ⟨w.heap.size, 2, none⟩ = some (.string c) := k1.cell 2
      have p3 : w1.cell? ⟨w.heap.size, 3, none⟩ = some (.int .i64 (n : Int)) := k1.cell 3
      have HB1 := Lib.hid (And.intro h1' k1)
      have CFx := Lib.hid (CF.out 1 1 rfl (by omega) w1)
      clear h1' k1 g1 CM
      by_cases z1 : x1 < b.size
      · have i1 : (x1 : Int) < (b.size : Int) := by omega
        have hRt : R = true := by rw [← HR.out, if_neg h1, if_neg h2, if_neg h3, if_pos z1]
        have HRT := Lib.hid hRt
        clear hRt
        go_wp2_with fail
        (with_reducible refine (CFx.out).mono ?_); rintro e w2 ⟨r, rfl, hr, g2⟩
        have wr2 : IntKind.i64.wrap ((r : Int) + (x1 : Int)) = (r : Int) + (x1 : Int) := by rw [IntKind.wrap_i64]; omega
        go_wp2_with fail
        go_ret
        exact ⟨_, rfl, by rw [HRT.out]; simp; omega, HB1.out.1.trans (g2.mono HB1.out.1.size)⟩
      · have i1 : ¬ (x1 : Int) < (b.size : Int) := by omega
        by_cases z2 : 2 < n ∧ x1 = 0
        · have i2 : (2 : Int) < (n : Int) := by omega
          have i3 : ((x1 : Int) == 0) = true := by rw [beq_iff_eq]; omega
          have d2 : decide ((2 : Int) < (n : Int)) = true := by simp; omega
          have HRT := Lib.hid (show R = true by rw [← HR.out, if_neg h1, if_neg h2, if_neg h3, if_neg z1, if_pos z2])
          clear z2
          go_wp2_with fail
          (with_reducible refine (CFx.out).mono ?_); rintro e w2 ⟨r, rfl, hr, g2⟩
          go_wp2_with fail
          go_ret
          exact ⟨_, rfl, by rw [HRT.out]; simp, HB1.out.1.trans (g2.mono HB1.out.1.size)⟩
        · have Z2 := Lib.hid z2
          by_cases z3 : n = 2
          · have i2 : ¬ (2 : Int) < (n : Int) := by omega
            have d2 : decide ((2 : Int) < (n : Int)) = false := by simp; omega
            have i4 : ((2 : Int) == (n : Int)) = true := by rw [beq_iff_eq]; omega
            have HRT := Lib.hid (show R = false by rw [← HR.out, if_neg h1, if_neg h2, if_neg h3, if_neg z1, if_neg z2, if_pos z3])
            clear z2 z3
            go_wp2_with fail
            go_ret
            exact ⟨_, rfl, by rw [HRT.out]; decide, HB1.out.1⟩
          · have i2 : (2 : Int) < (n : Int) := by omega
            have d2 : decide ((2 : Int) < (n : Int)) = true := by simp; omega
            have i3 : ((x1 : Int) == 0) = false := by rw [beq_eq_false_iff_ne]; omega
            have i4 : ((2 : Int) == (n : Int)) = false := by rw [beq_eq_false_iff_ne]; omega
            have HZ := Lib.hid (And.intro z1 (And.intro z2 z3))
            clear z2 z3
            go_wp2_with fail
            go_roundw
            case rel => exact ⟨.inr (.inr ⟨rfl, h1, h2, h3, HZ.out.1, HZ.out.2.1, HZ.out.2.2⟩), hide HB1.out.1, hide HB1.out.2⟩
            case measure => simp [intOf]
    · have CM := Lib.hid (C2.out wr)
      go_wp2_with fail
      (with_reducible refine (CM.out).mono ?_); rintro e w1 ⟨rfl, g1⟩
      have h1' := hB.out.trans (g1.mono hB.out.size)
      have k1 := hK.out.below g1 hK.out.lt
      have p0 : w1.cell? ⟨w.heap.size, 0, none⟩ = some (.string a) := k1.cell 0
      have p1 : w1.cell? ⟨w.heap.size, 1, none⟩ = some (.string b) := k1.cell 1
      have p2 : w1.cell? ⟨w.heap.size, 2, none⟩ = some (.string c) := k1.cell 2
      have p3 : w1.cell? ⟨w.heap.size, 3, none⟩ = some (.int .i64 (n : Int)) := k1.cell 3
      have HB1 := Lib.hid (And.intro h1' k1)
      have CFx := Lib.hid (CF.out 2 2 rfl (by omega) w1)
      clear h1' k1 g1 CM
      by_cases z1 : x2 < c.size
      · have i1 : (x2 : Int) < (c.size : Int) := by omega
        have hRt : R = true := by rw [← HR.out, if_neg h1, if_neg h2, if_neg h3, if_neg h4, if_neg h5, if_neg h6, decide_eq_true z1]
        have HRT := Lib.hid hRt
        clear hRt
        go_wp2_with fail
        (with_reducible refine (CFx.out).mono ?_); rintro e w2 ⟨r, rfl, hr, g2⟩
        have wr2 : IntKind.i64.wrap ((r : Int) + (x2 : Int)) = (r : Int) + (x2 : Int) := by rw [IntKind.wrap_i64]; omega
        go_wp2_with fail
        go_ret
        exact ⟨_, rfl, by rw [HRT.out]; simp; omega, HB1.out.1.trans (g2.mono HB1.out.1.size)⟩
      · have i1 : ¬ (x2 : Int) < (c.size : Int) := by omega
        have n3 : n = 3 := by omega
        have i2 : ¬ (3 : Int) < (n : Int) := by omega
        have d2 : decide ((3 : Int) < (n : Int)) = false := by simp; omega
        have i4 : ((3 : Int) == (n : Int)) = true := by rw [beq_iff_eq]; omega
        have HRT := Lib.hid (show R = false by rw [← HR.out, if_neg h1, if_neg h2, if_neg h3, if_neg h4, if_neg h5, if_neg h6, decide_eq_false z1])
        clear n3
        go_wp2_with fail
        go_ret
        exact ⟨_, rfl, by rw [HRT.out]; decide, HB1.out.1⟩
end Go.Proofs.YtencphfhpnljlaaGreatDoor
