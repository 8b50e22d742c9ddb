/-
  TokenOnes holds at any two strings.
-/
import Derived.Test.YtepemdmjbfoiaaaDoorLa5
namespace Go.Proofs.YtepemdmjbfoiaaaDoor
open Go.RowKit

set_option maxRecDepth 100000 in
set_option maxHeartbeats 4000000 in
theorem TokenOnes_small (a b : ByteArray) (w : World) (ha : a.size ≤ 200) (hb : b.size ≤ 200) :
    Calls Tryd.prog 6 #[.string a, .string b] w fun e w' => e = .returned (.bool true) ∧ Below w.heap.size w w' := by
  have d1 : decide ((200 : Int) < (a.size : Int)) = false := by simp; omega
  have d2 : decide ((200 : Int) < (b.size : Int)) = false := by simp; omega
  have c1 := fun w => TIs_any a w (by omega)
  have c1' := fun w => rIs a w (by omega)
  obtain ⟨x1, e1⟩ : ∃ x, isTok a.data.toList = x := ⟨_, rfl⟩
  rw [e1] at c1 c1'
  have c2 := fun w => TValue_any a w (by omega)
  have c2' := fun w => rValue a w (by omega)
  obtain ⟨x2, e2⟩ : ∃ x, isVal a.data.toList = x := ⟨_, rfl⟩
  rw [e2] at c2 c2'
  have c3 := fun w => TTrim_any a w (by omega)
  have c3' := fun w => rTrim a w (by omega)
  obtain ⟨x3, e3⟩ : ∃ x, tr a = x := ⟨_, rfl⟩
  rw [e3] at c3 c3'
  have c4 := fun w => TLower_any a w (by omega)
  have c4' := fun w => rLower a w (by omega)
  obtain ⟨x4, e4⟩ : ∃ x, low a = x := ⟨_, rfl⟩
  rw [e4] at c4 c4'
  have c5 := fun w => TSame_any a b w (by omega) (by omega)
  have c5' := fun w => rSame a b w (by omega) (by omega)
  obtain ⟨x5, e5⟩ : ∃ x, (lowL a.data.toList == lowL b.data.toList) = x := ⟨_, rfl⟩
  rw [e5] at c5 c5'
  have c6 := fun w => TCut_any a w (by omega)
  have c6' := fun w => rCut a w (by omega)
  obtain ⟨⟨n6, r6, k6⟩, e6⟩ : ∃ x, cutT a.data.toList = x := ⟨_, rfl⟩
  rw [e6] at c6 c6'
  have c7 := fun w => TColon_any a w (by omega)
  have c7' := fun w => rColon a w (by omega)
  obtain ⟨⟨n7, r7, k7⟩, e7⟩ : ∃ x, colT a.data.toList = x := ⟨_, rfl⟩
  rw [e7] at c7 c7'
  simp only at c6 c6' c7 c7'
  have C1 := Lib.hid c1
  have C1' := Lib.hid c1'
  have C2 := Lib.hid c2
  have C2' := Lib.hid c2'
  have C3 := Lib.hid c3
  have C3' := Lib.hid c3'
  have C4 := Lib.hid c4
  have C4' := Lib.hid c4'
  have C5 := Lib.hid c5
  have C5' := Lib.hid c5'
  have C6 := Lib.hid c6
  have C6' := Lib.hid c6'
  have C7 := Lib.hid c7
  have C7' := Lib.hid c7'
  clear c1 c1' c2 c2' c3 c3' c4 c4' c5 c5' c6 c6' c7 c7' e1 e2 e3 e4 e5 e6 e7
  go_enter Tryd.func6, Tryd.ntmps6
  go_wp2_with fail
  (with_reducible refine (C1.out _).mono ?_); rintro e w1 ⟨rfl, hb1⟩
  go_wp2_with fail
  (with_reducible refine (C1'.out _).mono ?_); rintro e w1' ⟨rfl, rfl⟩
  go_wp2_with fail
  (with_reducible refine (C2.out _).mono ?_); rintro e w2 ⟨rfl, hb2⟩
  replace hb2 := hb1.trans (hb2.mono hb1.size)
  clear hb1
  go_wp2_with fail
  (with_reducible refine (C2'.out _).mono ?_); rintro e w2' ⟨rfl, rfl⟩
  go_wp2_with fail
  (with_reducible refine (C3.out _).mono ?_); rintro e w3 ⟨rfl, hb3⟩
  replace hb3 := hb2.trans (hb3.mono hb2.size)
  clear hb2
  go_wp2_with fail
  (with_reducible refine (C3'.out _).mono ?_); rintro e w3' ⟨rfl, rfl⟩
  go_wp2_with fail
  (with_reducible refine (C4.out _).mono ?_); rintro e w4 ⟨rfl, hb4⟩
  replace hb4 := hb3.trans (hb4.mono hb3.size)
  clear hb3
  go_wp2_with fail
  (with_reducible refine (C4'.out _).mono ?_); rintro e w5 ⟨rfl, hb5⟩
  replace hb5 := hb4.trans (hb5.mono hb4.size)
  clear hb4
  go_wp2_with fail
  (with_reducible refine (C5.out _).mono ?_); rintro e w6 ⟨rfl, hb6⟩
  replace hb6 := hb5.trans (hb6.mono hb5.size)
  clear hb5
  go_wp2_with fail
  (with_reducible refine (C5'.out _).mono ?_); rintro e w7 ⟨rfl, hb7⟩
  replace hb7 := hb6.trans (hb7.mono hb6.size)
  clear hb6
  go_wp2_with fail
  (with_reducible refine (C6.out _).mono ?_); rintro e w8 ⟨rfl, hb8⟩
  replace hb8 := hb7.trans (hb8.mono hb7.size)
  clear hb7
  go_wp2_with fail
  (with_reducible refine (C6'.out _).mono ?_); rintro e w9 ⟨rfl, m9, rfl⟩
  go_wp2_with fail
  (with_reducible refine (C7.out _).mono ?_); rintro e w10 ⟨rfl, hb10⟩
  replace hb10 := (below_drewN hb8 m9).trans (hb10.mono hb8.size)
  clear hb8
  go_wp2_with fail
  (with_reducible refine (C7'.out _).mono ?_); rintro e w11 ⟨rfl, m11, rfl⟩
  go_wp2_with fail
  (with_reducible refine (awake05 _).mono ?_); rintro e w12 ⟨rfl, hb12⟩
  go_wp2_with fail
  go_ret
  exact ⟨rfl, (below_drewN hb10 m11).trans (hb12.mono hb10.size)⟩
theorem TokenOnes_true (a b : ByteArray) (w : World) (ha : a.size ≤ 9223372036854775807) (hb : b.size ≤ 9223372036854775807) :
    Calls Tryd.prog 6 #[.string a, .string b] w fun e w' => e = .returned (.bool true) ∧ Below w.heap.size w w' := by
  by_cases h1 : a.size ≤ 200
  · by_cases h2 : b.size ≤ 200
    · exact TokenOnes_small a b w h1 h2
    · have d1 : decide ((200 : Int) < (a.size : Int)) = false := by simp; omega
      have d2 : decide ((200 : Int) < (b.size : Int)) = true := by simp; omega
      go_enter Tryd.func6, Tryd.ntmps6
      go_wp2_with fail
      (with_reducible refine (awake05 _).mono ?_); rintro e w12 ⟨rfl, hb12⟩
      go_wp2_with fail
      go_ret
      exact ⟨rfl, hb12⟩
  · have d1 : decide ((200 : Int) < (a.size : Int)) = true := by simp; omega
    go_enter Tryd.func6, Tryd.ntmps6
    go_wp2_with fail
    (with_reducible refine (awake05 _).mono ?_); rintro e w12 ⟨rfl, hb12⟩
    go_wp2_with fail
    go_ret
    exact ⟨rfl, hb12⟩
end Go.Proofs.YtepemdmjbfoiaaaDoor
