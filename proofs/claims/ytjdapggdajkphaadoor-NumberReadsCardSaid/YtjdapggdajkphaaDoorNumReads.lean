/-
  NumberReads: which numbers a text is, decimal and hexadecimal, and which one all numbers of a list are, or which errors: the program and the reference agree. The walk of the statement's function, for every string, int and uint64.
-/
import Derived.Test.YtjdapggdajkphaaDoorNumR4
namespace Go.Proofs.YtjdapggdajkphaaDoor
open Go.RowKit

set_option maxRecDepth 100000 in
set_option maxHeartbeats 2000000 in
theorem NumberReads_true (s : ByteArray) (digits : Int) (most : Nat) (w : World) (hs : s.size ≤ 9223372036854775807) (htab : Tabs2 w) :
    Calls Tryd.prog 6 #[.string s, .int .i64 digits, .int .u64 most] w fun r w' => r = .returned (.bool true) ∧ Below w.heap.size w w' := by
  have AW := Lib.hid awake_true
  by_cases hlen : 300 < s.size
  · go_enter Tryd.func6, Tryd.ntmps6
    go_wp2_with fail
    refine (AW.out _ htab.tabs).mono ?_; rintro e w5 ⟨rfl, hb5⟩
    go_wp2_with fail
    go_ret
    exact ⟨rfl, hb5⟩
  · obtain ⟨a1, e1, c1, c2⟩ : ∃ a e : Nat, (∀ w, Calls Tryd.prog 21 #[.string s, .int .i64 digits, .int .u64 most] w fun r w' => r = .returned (.tuple #[.int .u64 a, .int .i64 e]) ∧ w = w') ∧
        (∀ w, Calls Tryd.prog 22 #[.string s, .int .i64 digits, .int .u64 most] w fun r w' => r = .returned (.tuple #[.int .u64 a, .int .i64 e]) ∧ w = w') := ⟨_, _, fun w => Dec_any s digits most w hs, fun w => refDec s digits most w hs⟩
    obtain ⟨a2, e2, c3, c4⟩ : ∃ a e : Nat, (∀ w, Calls Tryd.prog 23 #[.string s, .int .i64 digits, .int .u64 most] w fun r w' => r = .returned (.tuple #[.int .u64 a, .int .i64 e]) ∧ Below w.heap.size w w') ∧
        (∀ w, Calls Tryd.prog 24 #[.string s, .int .i64 digits, .int .u64 most] w fun r w' => r = .returned (.tuple #[.int .u64 a, .int .i64 e]) ∧ w = w') := ⟨_, _, fun w => Hex_any s digits most w hs, fun w => refHex s digits most w hs⟩
    obtain ⟨a3, e3, c5, c6⟩ : ∃ a e : Nat, (∀ w, Tabs2 w → Calls Tryd.prog 25 #[.string s, .int .i64 digits, .int .u64 most] w fun r w' => r = .returned (.tuple #[.int .u64 a, .int .i64 e]) ∧ Below w.heap.size w w') ∧
        (∀ w, Calls Tryd.prog 26 #[.string s, .int .i64 digits, .int .u64 most] w fun r w' => r = .returned (.tuple #[.int .u64 a, .int .i64 e]) ∧ Below w.heap.size w w') := ⟨_, _, fun w h => Same_any s digits most w (by omega) h, fun w => refSame s digits most w (by omega)⟩
    have C1 := Lib.hid c1
    have C2 := Lib.hid c2
    have C3 := Lib.hid c3
    have C4 := Lib.hid c4
    have C5 := Lib.hid c5
    have C6 := Lib.hid c6
    clear c1 c2 c3 c4 c5 c6
    go_enter Tryd.func6, Tryd.ntmps6
    go_wp2_with fail
    (with_reducible refine (C1.out _).mono ?_); rintro r w' ⟨rfl, rfl⟩
    go_wp2_with fail
    (with_reducible refine (C2.out _).mono ?_); rintro r w' ⟨rfl, rfl⟩
    go_wp2_with fail
    (with_reducible refine (C3.out _).mono ?_); rintro r w1 ⟨rfl, hb1⟩
    go_wp2_with fail
    (with_reducible refine (C4.out _).mono ?_); rintro r w' ⟨rfl, rfl⟩
    go_wp2_with fail
    (with_reducible refine (C5.out _ (htab.below hb1)).mono ?_); rintro r w2 ⟨rfl, hb2⟩
    have hb2' := hb1.trans (hb2.mono hb1.size)
    go_wp2_with fail
    (with_reducible refine (C6.out _).mono ?_); rintro r w3 ⟨rfl, hb3⟩
    have hb3' := hb2'.trans (hb3.mono hb2'.size)
    go_wp2_with fail
    refine (AW.out _ (htab.below hb3').tabs).mono ?_; rintro e w5 ⟨rfl, hb5⟩
    go_wp2_with fail
    go_ret
    exact ⟨rfl, hb3'.trans (hb5.mono hb3'.size)⟩
end Go.Proofs.YtjdapggdajkphaaDoor
