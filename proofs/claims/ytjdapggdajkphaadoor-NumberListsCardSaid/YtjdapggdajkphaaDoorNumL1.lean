/-
  What the statements' own helpers return: Mod, dec, hex, awake.
-/
import Derived.Test.YtjdapggdajkphaaDoorNumW5
import Derived.Test.YtjdapggdajkphaaDoorNumQ
namespace Go.Proofs.YtjdapggdajkphaaDoor
open Go.RowKit

set_option maxHeartbeats 400000 in
theorem Mod_any (n m : Int) (w : World) (_h0 : -9223372036854775808 ≤ n) (_h1 : n ≤ 9223372036854775807) (_hm : 1 ≤ m) (_hm2 : m ≤ 4611686018427387904) :
    Calls Tryd.prog 9 #[.int .i64 n, .int .i64 m] w fun e w' => e = .returned (.int .i64 (n % m)) ∧ w = w' := by
  have hx : n.tmod m = if n < 0 ∧ n % m ≠ 0 then n % m - m else n % m := by
    by_cases hn : 0 ≤ n
    · rw [if_neg (by omega), Int.tmod_eq_emod_of_nonneg hn]
    · by_cases h : n % m = 0
      · rw [if_neg (by omega), Int.tmod_eq_emod, if_pos (.inr (Int.dvd_of_emod_eq_zero h))]; omega
      · rw [if_pos (by omega), Int.tmod_eq_emod, if_neg (by
          rintro (h2 | h2)
          · exact hn h2
          · exact h (Int.emod_eq_zero_of_dvd h2))]
        omega
  have hlo := Int.emod_nonneg n (show m ≠ 0 by omega)
  have hhi := Int.emod_lt_of_pos n (show 0 < m by omega)
  obtain ⟨r, hr⟩ : ∃ r, n % m = r := ⟨_, rfl⟩
  rw [hr] at hx hlo hhi ⊢
  obtain ⟨q, hq⟩ : ∃ q, n.tmod m = q := ⟨_, rfl⟩
  rw [hq] at hx
  have HX := Lib.hid hx
  have hb : (q < 0 ∧ q + m = r) ∨ (0 ≤ q ∧ q = r) := by
    rw [hx]; split <;> omega
  have hq1 : -m < q := by rw [hx]; split <;> omega
  have hq2 : q < m := by rw [hx]; split <;> omega
  clear hx hr
  by_cases hn : q < 0
  all_goals
    go_enter Tryd.func9, Tryd.ntmps9
    go_wp2
    go_ret
    exact ⟨ret_int (by omega), rfl⟩

set_option maxHeartbeats 400000 in
/-- dec: true where reading gives just this -/
theorem dec_yes (s : ByteArray) (digits : Int) (most want : Nat) (e : Nat) (w : World) (hs : s.size ≤ 9223372036854775807) (h : rdN false s.data.toList digits most = (want, e)) :
    Calls Tryd.prog 12 #[.string s, .int .i64 digits, .int .u64 most, .int .u64 want, .int .i64 e] w fun r w' => r = .returned (.bool true) ∧ w = w' := by
  have hc : ∀ w, Calls Tryd.prog 21 #[.string s, .int .i64 digits, .int .u64 most] w fun r w' => r = .returned (.tuple #[.int .u64 want, .int .i64 e]) ∧ w = w' := fun w => by
    have := Dec_any s digits most w hs
    rw [h] at this
    exact this
  have HC := Lib.hid hc
  clear hc h
  go_enter Tryd.func12, Tryd.ntmps12
  go_wp2_with (go_at_call 21; refine (HC.out _).mono ?_; rintro e w' ⟨rfl, rfl⟩)
  go_ret
  exact ⟨by simp, rfl⟩
set_option maxHeartbeats 400000 in
theorem hex_yes (s : ByteArray) (digits : Int) (most want : Nat) (e : Nat) (w : World) (hs : s.size ≤ 9223372036854775807) (h : rdN true s.data.toList digits most = (want, e)) :
    Calls Tryd.prog 13 #[.string s, .int .i64 digits, .int .u64 most, .int .u64 want, .int .i64 e] w fun r w' => r = .returned (.bool true) ∧ Below w.heap.size w w' := by
  have hc : ∀ w, Calls Tryd.prog 23 #[.string s, .int .i64 digits, .int .u64 most] w fun r w' => r = .returned (.tuple #[.int .u64 want, .int .i64 e]) ∧ Below w.heap.size w w' := fun w => by
    have := Hex_any s digits most w hs
    rw [h] at this
    exact this
  have HC := Lib.hid hc
  clear hc h
  go_enter Tryd.func13, Tryd.ntmps13
  go_wp2_with (go_at_call 23; refine (HC.out _).mono ?_; rintro e w' ⟨rfl, hb⟩)
  go_ret
  exact ⟨by simp, hb⟩
set_option maxHeartbeats 1000000 in
theorem awake_true (w : World) (htab : Tabs w) : Calls Tryd.prog 14 #[] w fun r w' => r = .returned (.bool true) ∧ Below w.heap.size w w' := by
  have c1 : ∀ w, Calls Tryd.prog 12 #[.string ⟨#[49, 50]⟩, .int .i64 2, .int .u64 99, .int .u64 12, .int .i64 0] w fun r w' => r = .returned (.bool true) ∧ w = w' := fun w => dec_yes ⟨#[49, 50]⟩ 2 99 12 0 w (by decide) (by decide)
  have c2 : ∀ w, Calls Tryd.prog 12 #[.string ⟨#[48, 49, 50]⟩, .int .i64 2, .int .u64 99, .int .u64 0, .int .i64 4] w fun r w' => r = .returned (.bool true) ∧ w = w' := fun w => dec_yes ⟨#[48, 49, 50]⟩ 2 99 0 4 w (by decide) (by decide)
  have c3 : ∀ w, Calls Tryd.prog 13 #[.string ⟨#[102, 70]⟩, .int .i64 2, .int .u64 255, .int .u64 255, .int .i64 0] w fun r w' => r = .returned (.bool true) ∧ Below w.heap.size w w' := fun w => hex_yes ⟨#[102, 70]⟩ 2 255 255 0 w (by decide) (by decide)
  have c4 : ∀ w, Tabs w → Calls Tryd.prog 10 #[.int .u64 0] w fun e w' => e = .returned (.string ⟨#[48]⟩) ∧ Below w.heap.size w w' := fun w h => by
    have e : Lib.decDigits 0 = [48] := by rw [Lib.decDigits]; rfl
    have := DecText_any 0 (by omega) w h
    rw [e] at this
    exact this
  have c5 : ∀ w, Tabs w → Calls Tryd.prog 11 #[.int .u64 255] w fun e w' => e = .returned (.string ⟨#[102, 102]⟩) ∧ Below w.heap.size w w' := fun w h => by
    have e : hexDigits 255 = [102, 102] := by rw [hexDigits_big (by decide), hexDigits_small (by decide)]; decide
    have := HexText_any 255 (by omega) w h
    rw [e] at this
    exact this
  have C1 := Lib.hid c1
  have C2 := Lib.hid c2
  have C3 := Lib.hid c3
  have C4 := Lib.hid c4
  have C5 := Lib.hid c5
  clear c1 c2 c3 c4 c5
  go_enter Tryd.func14, Tryd.ntmps14
  go_wp2_with fail
  refine (C1.out _).mono ?_; rintro e w' ⟨rfl, rfl⟩
  go_wp2_with fail
  refine (C2.out _).mono ?_; rintro e w' ⟨rfl, rfl⟩
  go_wp2_with fail
  refine (C3.out _).mono ?_; rintro e w1 ⟨rfl, hb1⟩
  have ht1 := htab.below hb1
  go_wp2_with fail
  refine (C4.out _ ht1).mono ?_; rintro e w2 ⟨rfl, hb2⟩
  have hb2' := hb1.trans (hb2.mono hb1.size)
  have ht2 := htab.below hb2'
  go_wp2_with fail
  refine (C5.out _ ht2).mono ?_; rintro e w3 ⟨rfl, hb3⟩
  go_wp2_with fail
  go_ret
  exact ⟨rfl, hb2'.trans (hb3.mono hb2'.size)⟩
end Go.Proofs.YtjdapggdajkphaaDoor
