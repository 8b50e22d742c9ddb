/-
  NumberWrites: the texts of a number, the value of a digit, and how many digits a text begins with, or which error: the program and the reference agree. The walk of the statement's function, for every uint64, byte, bool and string.
-/
import Derived.Test.YtjdapggdajkphaaDoorNumR1
namespace Go.Proofs.YtjdapggdajkphaaDoor
open Go.RowKit

set_option maxRecDepth 100000 in
set_option maxHeartbeats 2000000 in
theorem NumberWrites_true (n b : Nat) (hex : Bool) (s : ByteArray) (w : World) (hn : n < 18446744073709551616) (hb : b ≤ 255) (hs : s.size ≤ 9223372036854775807) (htab : Tabs w) :
    Calls Tryd.prog 5 #[.int .u64 n, .int .u8 b, .bool hex, .string s] w fun r w' => r = .returned (.bool true) ∧ Below w.heap.size w w' := by
  have AW := Lib.hid awake_true
  by_cases hlen : 300 < s.size
  · go_enter Tryd.func5, Tryd.ntmps5
    go_wp2_with fail
    refine (AW.out _ htab).mono ?_; rintro e w5 ⟨rfl, hb5⟩
    go_wp2_with fail
    go_ret
    exact ⟨rfl, hb5⟩
  · obtain ⟨d, e, cP, cR⟩ : ∃ d e : Int, (∀ w, Calls Tryd.prog 15 #[.int .u8 b, .bool hex] w fun r w' => r = .returned (.tuple #[.int .i64 d, .int .i64 e]) ∧ w = w') ∧
        (∀ w, Calls Tryd.prog 16 #[.int .u8 b, .bool hex] w fun r w' => r = .returned (.tuple #[.int .i64 d, .int .i64 e]) ∧ w = w') := by
      by_cases hd : dvN hex b < 16
      · exact ⟨_, _, fun w => Digit_yes b hex w hb hd, fun w => refDigit_yes b hex w hb hd⟩
      · exact ⟨_, _, fun w => Digit_no b hex w hb hd, fun w => refDigit_no b hex w hb hd⟩
    have CP := Lib.hid cP
    have CR := Lib.hid cR
    obtain ⟨ds, c1, c2⟩ : ∃ ds : ByteArray, (∀ w, Tabs w → Calls Tryd.prog 10 #[.int .u64 n] w fun e w' => e = .returned (.string ds) ∧ Below w.heap.size w w') ∧
        (∀ w, Calls Tryd.prog 17 #[.int .u64 n] w fun e w' => e = .returned (.string ds) ∧ Below w.heap.size w w') := ⟨_, fun w h => DecText_any n hn w h, fun w => refDecText n w hn⟩
    obtain ⟨xs, c3, c4⟩ : ∃ xs : ByteArray, (∀ w, Tabs w → Calls Tryd.prog 11 #[.int .u64 n] w fun e w' => e = .returned (.string xs) ∧ Below w.heap.size w w') ∧
        (∀ w, Calls Tryd.prog 18 #[.int .u64 n] w fun e w' => e = .returned (.string xs) ∧ Below w.heap.size w w') := ⟨_, fun w h => HexText_any n hn w h, fun w => refHexText n w hn⟩
    obtain ⟨q, c5, c6⟩ : ∃ q : Int, (∀ w, Calls Tryd.prog 19 #[.string s, .bool hex] w fun e w' => e = .returned (.int .i64 q) ∧ w = w') ∧
        (∀ w, Calls Tryd.prog 20 #[.string s, .bool hex] w fun e w' => e = .returned (.int .i64 q) ∧ w = w') := ⟨_, fun w => Prefix_any s hex w hs, fun w => refPrefix s hex w hs⟩
    have C1 := Lib.hid c1
    have C2 := Lib.hid c2
    have C3 := Lib.hid c3
    have C4 := Lib.hid c4
    have C5 := Lib.hid c5
    have C6 := Lib.hid c6
    clear cP cR c1 c2 c3 c4 c5 c6
    go_enter Tryd.func5, Tryd.ntmps5
    go_wp2_with fail
    (with_reducible refine (CP.out _).mono ?_); rintro r w' ⟨rfl, rfl⟩
    go_wp2_with fail
    (with_reducible refine (CR.out _).mono ?_); rintro r w' ⟨rfl, rfl⟩
    go_wp2_with fail
    (with_reducible refine (C1.out _ htab).mono ?_); rintro r w1 ⟨rfl, hb1⟩
    have ht1 := htab.below hb1
    go_wp2_with fail
    (with_reducible refine (C2.out _).mono ?_); rintro r w2 ⟨rfl, hb2⟩
    have hb2' := hb1.trans (hb2.mono hb1.size)
    have ht2 := htab.below hb2'
    go_wp2_with fail
    (with_reducible refine (C3.out _ ht2).mono ?_); rintro r w3 ⟨rfl, hb3⟩
    have hb3' := hb2'.trans (hb3.mono hb2'.size)
    go_wp2_with fail
    (with_reducible refine (C4.out _).mono ?_); rintro r w4 ⟨rfl, hb4⟩
    have hb4' := hb3'.trans (hb4.mono hb3'.size)
    have ht4 := htab.below hb4'
    go_wp2_with fail
    (with_reducible refine (C5.out _).mono ?_); rintro r w' ⟨rfl, rfl⟩
    go_wp2_with fail
    (with_reducible refine (C6.out _).mono ?_); rintro r w' ⟨rfl, rfl⟩
    go_wp2_with fail
    refine (AW.out _ ht4).mono ?_; rintro e w5 ⟨rfl, hb5⟩
    go_wp2_with fail
    go_ret
    exact ⟨rfl, hb4'.trans (hb5.mono hb4'.size)⟩
end Go.Proofs.YtjdapggdajkphaaDoor
