/-
  TokenSame holds at any three strings.
-/
import Derived.Test.YtepemdmjbfoiaaaDoorLTokKnown
namespace Go.Proofs.YtepemdmjbfoiaaaDoor
open Go.RowKit

set_option maxRecDepth 100000 in
set_option maxHeartbeats 8000000 in
theorem TokenSame_small (a b c : ByteArray) (w : World) (ha : a.size ≤ 100) (hb : b.size ≤ 100) (hc : c.size ≤ 100) :
    Calls Tryd.prog 7 #[.string a, .string b, .string c] w fun e w' => e = .returned (.bool true) ∧ Below w.heap.size w w' := by
  have d1 : decide ((100 : Int) < (a.size : Int)) = false := by simp; omega
  have d2 : decide ((100 : Int) < (b.size : Int)) = false := by simp; omega
  have d3 : decide ((100 : Int) < (c.size : Int)) = false := by simp; omega
  obtain ⟨x, hx⟩ : ∃ x, (lowL a.data.toList == lowL b.data.toList) = x := ⟨_, rfl⟩
  obtain ⟨y, hy⟩ : ∃ x, (lowL b.data.toList == lowL c.data.toList) = x := ⟨_, rfl⟩
  obtain ⟨z, hz⟩ : ∃ x, (lowL a.data.toList == lowL c.data.toList) = x := ⟨_, rfl⟩
  have hx' : (lowL b.data.toList == lowL a.data.toList) = x := by rw [← hx]; exact BEq.comm
  have htr : x = true → y = true → z = true := by
    intro h1 h2
    rw [h1, beq_iff_eq] at hx
    rw [h2, beq_iff_eq] at hy
    rw [← hz, beq_iff_eq, hx, hy]
  obtain ⟨l, hl⟩ : ∃ l, low a = l := ⟨_, rfl⟩
  have hls : l.size = a.size := by rw [← hl]; exact low_size a
  have hll : l.data.toList = lowL a.data.toList := by rw [← hl]; rfl
  have c1 := fun w => TLower_any a w (by omega)
  rw [hl] at c1
  have c2 := fun w => TSame_any a a w (by omega) (by omega)
  rw [beq_self_eq_true] at c2
  have c3 := fun w => TSame_any a l w (by omega) (by omega)
  rw [hll, lowL_low, beq_self_eq_true] at c3
  have c4 := fun w => TLower_any l w (by omega)
  rw [show low l = l from ba_ext (by rw [low_list, hll, lowL_low])] at c4
  have c5 := fun w => TSame_any a b w (by omega) (by omega)
  rw [hx] at c5
  have c6 := fun w => TSame_any b a w (by omega) (by omega)
  rw [hx'] at c6
  obtain ⟨lb, hlb⟩ : ∃ l, low b = l := ⟨_, rfl⟩
  have c7 := fun w => TLower_any b w (by omega)
  rw [hlb] at c7
  have c8 := fun w => TSame_any b c w (by omega) (by omega)
  rw [hy] at c8
  have c9 := fun w => TSame_any a c w (by omega) (by omega)
  rw [hz] at c9
  have e1 : (l.toList == lb.toList) = x := by rw [Lib.toList_data, Lib.toList_data, hll, ← hlb, low_list, hx]
  have e2 : ((l.size : Int) == (a.size : Int)) = true := by rw [hls]; simp
  have C1 := Lib.hid c1
  have C2 := Lib.hid c2
  have C3 := Lib.hid c3
  have C4 := Lib.hid c4
  have C5 := Lib.hid c5
  have C6 := Lib.hid c6
  have C7 := Lib.hid c7
  have C8 := Lib.hid c8
  have C9 := Lib.hid c9
  clear c1 c2 c3 c4 c5 c6 c7 c8 c9 hx hy hz hx' hl hls hll hlb
  cases x
  · go_enter Tryd.func7, Tryd.ntmps7
    go_wp2_with fail
    (with_reducible refine (TokenKnown_true _).mono ?_); rintro e w1 ⟨rfl, hb1⟩
    go_wp2_with fail
    (with_reducible refine (C1.out _).mono ?_); rintro e w2 ⟨rfl, hb2⟩
    replace hb2 := hb1.trans (hb2.mono hb1.size)
    go_wp2_with fail
    (with_reducible refine (C2.out _).mono ?_); rintro e w3 ⟨rfl, hb3⟩
    replace hb3 := hb2.trans (hb3.mono hb2.size)
    go_wp2_with fail
    (with_reducible refine (C3.out _).mono ?_); rintro e w4 ⟨rfl, hb4⟩
    replace hb4 := hb3.trans (hb4.mono hb3.size)
    go_wp2_with fail
    (with_reducible refine (C4.out _).mono ?_); rintro e w5 ⟨rfl, hb5⟩
    replace hb5 := hb4.trans (hb5.mono hb4.size)
    go_wp2_with fail
    (with_reducible refine (C5.out _).mono ?_); rintro e w6 ⟨rfl, hb6⟩
    replace hb6 := hb5.trans (hb6.mono hb5.size)
    go_wp2_with fail
    (with_reducible refine (C6.out _).mono ?_); rintro e w7 ⟨rfl, hb7⟩
    replace hb7 := hb6.trans (hb7.mono hb6.size)
    go_wp2_with fail
    (with_reducible refine (C5.out _).mono ?_); rintro e w8 ⟨rfl, hb8⟩
    replace hb8 := hb7.trans (hb8.mono hb7.size)
    go_wp2_with fail
    (with_reducible refine (C7.out _).mono ?_); rintro e w9 ⟨rfl, hb9⟩
    replace hb9 := hb8.trans (hb9.mono hb8.size)
    go_wp2_with fail
    (with_reducible refine (C5.out _).mono ?_); rintro e w10 ⟨rfl, hb10⟩
    replace hb10 := hb9.trans (hb10.mono hb9.size)
    go_wp2_with fail
    go_ret
    exact ⟨rfl, hb10⟩
  · cases y
    · clear htr
      go_enter Tryd.func7, Tryd.ntmps7
      go_wp2_with fail
      (with_reducible refine (TokenKnown_true _).mono ?_); rintro e w1 ⟨rfl, hb1⟩
      go_wp2_with fail
      (with_reducible refine (C1.out _).mono ?_); rintro e w2 ⟨rfl, hb2⟩
      replace hb2 := hb1.trans (hb2.mono hb1.size)
      go_wp2_with fail
      (with_reducible refine (C2.out _).mono ?_); rintro e w3 ⟨rfl, hb3⟩
      replace hb3 := hb2.trans (hb3.mono hb2.size)
      go_wp2_with fail
      (with_reducible refine (C3.out _).mono ?_); rintro e w4 ⟨rfl, hb4⟩
      replace hb4 := hb3.trans (hb4.mono hb3.size)
      go_wp2_with fail
      (with_reducible refine (C4.out _).mono ?_); rintro e w5 ⟨rfl, hb5⟩
      replace hb5 := hb4.trans (hb5.mono hb4.size)
      go_wp2_with fail
      (with_reducible refine (C5.out _).mono ?_); rintro e w6 ⟨rfl, hb6⟩
      replace hb6 := hb5.trans (hb6.mono hb5.size)
      go_wp2_with fail
      (with_reducible refine (C6.out _).mono ?_); rintro e w7 ⟨rfl, hb7⟩
      replace hb7 := hb6.trans (hb7.mono hb6.size)
      go_wp2_with fail
      (with_reducible refine (C5.out _).mono ?_); rintro e w8 ⟨rfl, hb8⟩
      replace hb8 := hb7.trans (hb8.mono hb7.size)
      go_wp2_with fail
      (with_reducible refine (C7.out _).mono ?_); rintro e w9 ⟨rfl, hb9⟩
      replace hb9 := hb8.trans (hb9.mono hb8.size)
      go_wp2_with fail
      (with_reducible refine (C5.out _).mono ?_); rintro e w10 ⟨rfl, hb10⟩
      replace hb10 := hb9.trans (hb10.mono hb9.size)
      go_wp2_with fail
      (with_reducible refine (C8.out _).mono ?_); rintro e w11 ⟨rfl, hb11⟩
      replace hb11 := hb10.trans (hb11.mono hb10.size)
      go_wp2_with fail
      go_ret
      exact ⟨rfl, hb11⟩
    · have hz := htr rfl rfl
      subst hz
      clear htr
      go_enter Tryd.func7, Tryd.ntmps7
      go_wp2_with fail
      (with_reducible refine (TokenKnown_true _).mono ?_); rintro e w1 ⟨rfl, hb1⟩
      go_wp2_with fail
      (with_reducible refine (C1.out _).mono ?_); rintro e w2 ⟨rfl, hb2⟩
      replace hb2 := hb1.trans (hb2.mono hb1.size)
      go_wp2_with fail
      (with_reducible refine (C2.out _).mono ?_); rintro e w3 ⟨rfl, hb3⟩
      replace hb3 := hb2.trans (hb3.mono hb2.size)
      go_wp2_with fail
      (with_reducible refine (C3.out _).mono ?_); rintro e w4 ⟨rfl, hb4⟩
      replace hb4 := hb3.trans (hb4.mono hb3.size)
      go_wp2_with fail
      (with_reducible refine (C4.out _).mono ?_); rintro e w5 ⟨rfl, hb5⟩
      replace hb5 := hb4.trans (hb5.mono hb4.size)
      go_wp2_with fail
      (with_reducible refine (C5.out _).mono ?_); rintro e w6 ⟨rfl, hb6⟩
      replace hb6 := hb5.trans (hb6.mono hb5.size)
      go_wp2_with fail
      (with_reducible refine (C6.out _).mono ?_); rintro e w7 ⟨rfl, hb7⟩
      replace hb7 := hb6.trans (hb7.mono hb6.size)
      go_wp2_with fail
      (with_reducible refine (C5.out _).mono ?_); rintro e w8 ⟨rfl, hb8⟩
      replace hb8 := hb7.trans (hb8.mono hb7.size)
      go_wp2_with fail
      (with_reducible refine (C7.out _).mono ?_); rintro e w9 ⟨rfl, hb9⟩
      replace hb9 := hb8.trans (hb9.mono hb8.size)
      go_wp2_with fail
      (with_reducible refine (C5.out _).mono ?_); rintro e w10 ⟨rfl, hb10⟩
      replace hb10 := hb9.trans (hb10.mono hb9.size)
      go_wp2_with fail
      (with_reducible refine (C8.out _).mono ?_); rintro e w11 ⟨rfl, hb11⟩
      replace hb11 := hb10.trans (hb11.mono hb10.size)
      go_wp2_with fail
      (with_reducible refine (C9.out _).mono ?_); rintro e w12 ⟨rfl, hb12⟩
      replace hb12 := hb11.trans (hb12.mono hb11.size)
      go_wp2_with fail
      go_ret
      exact ⟨rfl, hb12⟩

theorem TokenSame_true (a b c : ByteArray) (w : World) (ha : a.size ≤ 9223372036854775807) (hb : b.size ≤ 9223372036854775807) (hc : c.size ≤ 9223372036854775807) :
    Calls Tryd.prog 7 #[.string a, .string b, .string c] w fun e w' => e = .returned (.bool true) ∧ Below w.heap.size w w' := by
  by_cases h1 : a.size ≤ 100
  · have d1 : decide ((100 : Int) < (a.size : Int)) = false := by simp; omega
    by_cases h2 : b.size ≤ 100
    · have d2 : decide ((100 : Int) < (b.size : Int)) = false := by simp; omega
      by_cases h3 : c.size ≤ 100
      · exact TokenSame_small a b c w h1 h2 h3
      · have d3 : decide ((100 : Int) < (c.size : Int)) = true := by simp; omega
        go_enter Tryd.func7, Tryd.ntmps7
        go_wp2_with fail
        (with_reducible refine (TokenKnown_true _).mono ?_); rintro e w1 ⟨rfl, hb1⟩
        go_wp2_with fail
        go_ret
        exact ⟨rfl, hb1⟩
    · have d2 : decide ((100 : Int) < (b.size : Int)) = true := by simp; omega
      go_enter Tryd.func7, Tryd.ntmps7
      go_wp2_with fail
      (with_reducible refine (TokenKnown_true _).mono ?_); rintro e w1 ⟨rfl, hb1⟩
      go_wp2_with fail
      go_ret
      exact ⟨rfl, hb1⟩
  · have d1 : decide ((100 : Int) < (a.size : Int)) = true := by simp; omega
    go_enter Tryd.func7, Tryd.ntmps7
    go_wp2_with fail
    (with_reducible refine (TokenKnown_true _).mono ?_); rintro e w1 ⟨rfl, hb1⟩
    go_wp2_with fail
    go_ret
    exact ⟨rfl, hb1⟩
end Go.Proofs.YtepemdmjbfoiaaaDoor
